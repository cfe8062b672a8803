/- The methods of a pair of semirings. -/
import Derived.Test.YtifellalnojomaaDoorPairI
import Derived.Test.YtifellalnojomaaDoorKnown
import Derived.Deep.DeepCutAuto
import Derived.Deep.CutBlock
namespace Go.Proofs.YtifellalnojomaaDoor
open Go.RowKit Go.PL Go.Maps

theorem not_uvO {w : World} {B : Nat} (h : w.heap[B]? = some (.cells #[.bool false, .slice none 0 0, .bool false, .int .i64 0] 80)) (k n : Nat) : w.cell? ⟨B, k, none⟩ ≠ some (uv n) := by
  rw [cell_of h k]
  match k with
  | 0 => simp [uv]
  | 1 => simp [uv]
  | 2 => simp [uv]
  | 3 => simp [uv]
  | k + 4 => simp

set_option maxRecDepth 100000 in
set_option maxHeartbeats 1600000 in
theorem O_add1 (i j : Nat) (hij : i + j ≤ 20) (pa pb : Nat) (ka : Bool) (ga : Option Addr) (na : Nat) (ca : Nat) (la : Bool) (ma : Int) (kb : Bool) (gb : Option Addr) (nb : Nat) (cb : Nat) (lb : Bool) (mb : Int) {x y : Bool} (w : World)
    (ba : w.heap[pa]? = some (.cells #[.bool ka, .slice ga na ca, .bool la, .int .i64 ma] 80)) (bb : w.heap[pb]? = some (.cells #[.bool kb, .slice gb nb cb, .bool lb, .int .i64 mb] 80)) (ha : RepB i w (.bool ka) x) (hb : RepB j w (.bool kb) y) :
    Calls Tryd.prog 71 #[.iface 23 (.agg #[]), .pointer (some ⟨pa, 0, none⟩), .pointer (some ⟨pb, 0, none⟩)] w fun e w' => ∃ k, e = .returned (.bool k) ∧ Upto [] w w' ∧ RepB (i + j) w' (.bool k) ((fun a b => a || b) x y) := by
  have H := Lib.hid (fun u (hu : Upto [] w u) => ringB.ha i j u _ _ x y hij (ringB.stable _ _ _ _ _ ha hu) (ringB.stable _ _ _ _ _ hb hu))
  have a0 := cell_of ba 0
  have b10 := cell_of bb 0
  simp only [List.getElem?_toArray, List.getElem?_cons_zero, List.getElem?_cons_succ] at a0 b10
  have la := lt_of_heap ba
  have lb := lt_of_heap bb
  have hup := Upto.refl [] w
  clear ba bb ha hb
  have mAB : ∀ w, (method 292 23 (.agg #[]) "Add").run Tryd.prog w = .ok (13, .agg #[]) w := fun _ => by kernel_rfl
  go_enter Tryd.func71, Tryd.ntmps71
  go_wp2_with fail
  refine (H.out _ hup).mono ?_
  rintro e w1 ⟨v, rfl, hu1, hr⟩
  obtain ⟨kr, rfl⟩ := repB_shape _ _ _ _ hr
  clear H
  go_wp2
  go_ret
  exact ⟨_, rfl, hup.trans_ext hu1, hr⟩

set_option maxRecDepth 100000 in
set_option maxHeartbeats 1600000 in
theorem O_half_add1 (i j : Nat) (hij : i + j ≤ 20) (pa pb : Nat) (ka : Bool) (ga : Option Addr) (na : Nat) (ca : Nat) (la : Bool) (ma : Int) (kb : Bool) (gb : Option Addr) (nb : Nat) (cb : Nat) (lb : Bool) (mb : Int) {x y : Bool} (w : World)
    (ba : w.heap[pa]? = some (.cells #[.bool ka, .slice ga na ca, .bool la, .int .i64 ma] 80)) (bb : w.heap[pb]? = some (.cells #[.bool kb, .slice gb nb cb, .bool lb, .int .i64 mb] 80)) (ha : RepB i w (.bool ka) x) (hb : RepB j w (.bool kb) y) :
    Calls Tryd.prog 70 #[.iface 23 (.agg #[]), .func (.func 71) #[] #[.pointer (some ⟨pa, 0, none⟩), .pointer (some ⟨pb, 0, none⟩)]] w fun e w' => ∃ k, e = .returned (.bool k) ∧ Upto [] w w' ∧ RepB (i + j) w' (.bool k) ((fun a b => a || b) x y) := by
  have H := Lib.hid (fun u (hu : Upto [] w u) => O_add1 i j hij pa pb ka ga na ca la ma kb gb nb cb lb mb u (hu.at ba (by simp)) (hu.at bb (by simp)) (ringB.stable _ _ _ _ _ ha hu) (ringB.stable _ _ _ _ _ hb hu))
  have hup := Upto.refl [] w
  clear ba bb ha hb
  have qn : ∀ w, (binOp .eql 72 (.iface 23 (.agg #[])) .nilIface).run Tryd.prog w = .ok (.bool false) w := fun _ => by kernel_rfl
  go_enter Tryd.func70, Tryd.ntmps70
  go_wp2_with fail
  refine (H.out _ hup).mono ?_
  rintro e w1 ⟨kr, rfl, hu1, hr⟩
  clear H
  go_wp2
  go_ret
  exact ⟨_, rfl, hup.trans_ext hu1, hr⟩

set_option maxRecDepth 100000 in
set_option maxHeartbeats 1600000 in
theorem O_add2 (i j : Nat) (hij : i + j ≤ 20) (pa pb : Nat) (ka : Bool) (ga : Option Addr) (na : Nat) (ca : Nat) (la : Bool) (ma : Int) (kb : Bool) (gb : Option Addr) (nb : Nat) (cb : Nat) (lb : Bool) (mb : Int) {x y : (Nat × (Option Int))} (w : World)
    (ba : w.heap[pa]? = some (.cells #[.bool ka, .slice ga na ca, .bool la, .int .i64 ma] 80)) (bb : w.heap[pb]? = some (.cells #[.bool kb, .slice gb nb cb, .bool lb, .int .i64 mb] 80)) (ha : RepI i w (.agg #[.slice ga na ca, .bool la, .int .i64 ma]) x) (hb : RepI j w (.agg #[.slice gb nb cb, .bool lb, .int .i64 mb]) y) :
    Calls Tryd.prog 73 #[.iface 70 (.agg #[.iface 42 (.agg #[]), .iface 29 (.agg #[])]), .pointer (some ⟨pa, 0, none⟩), .pointer (some ⟨pb, 0, none⟩)] w fun e w' => ∃ g n c l m, e = .returned (.agg #[.slice g n c, .bool l, .int .i64 m]) ∧ Upto [] w w' ∧ RepI (i + j) w' (.agg #[.slice g n c, .bool l, .int .i64 m]) ((fun a b => ((fun a b => a + b) a.1 b.1, minO a.2 b.2)) x y) := by
  have H := Lib.hid (fun u (hu : Upto [] w u) => ringI.ha i j u _ _ x y hij (ringI.stable _ _ _ _ _ ha hu) (ringI.stable _ _ _ _ _ hb hu))
  have a0 := cell_of ba 1
  have b10 := cell_of bb 1
  have a1 := cell_of ba 2
  have b11 := cell_of bb 2
  have a2 := cell_of ba 3
  have b12 := cell_of bb 3
  simp only [List.getElem?_toArray, List.getElem?_cons_zero, List.getElem?_cons_succ] at a0 b10 a1 b11 a2 b12
  have la := lt_of_heap ba
  have lb := lt_of_heap bb
  have b3 := new_at w (.cells #[.slice none 0 0, .bool false, .int .i64 0] 78)
  have hup : Upto [] w (w.alloc (.cells #[.slice none 0 0, .bool false, .int .i64 0] 78)) := (Upto.refl [] w).alloc _
  clear ba bb ha hb
  have mAI : ∀ w, (method 292 70 (.agg #[.iface 42 (.agg #[]), .iface 29 (.agg #[])]) "Add").run Tryd.prog w = .ok (140, .agg #[.iface 42 (.agg #[]), .iface 29 (.agg #[])]) w := fun _ => by kernel_rfl
  go_enter Tryd.func73, Tryd.ntmps73
  go_wp2_with fail
  refine (H.out _ hup).mono ?_
  rintro e w1 ⟨v, rfl, hu1, hr⟩
  obtain ⟨gr, nr, cr, lr, mr, rfl⟩ := repI_shape _ _ _ _ hr
  clear H
  have c3 := hu1.at b3 (by simp)
  have f20 := free_of c3 0
  have q20 := cell_of c3 0
  have f21 := free_of c3 1
  have q21 := cell_of c3 1
  have f22 := free_of c3 2
  have q22 := cell_of c3 2
  simp only [List.getElem?_toArray, List.getElem?_cons_zero, List.getElem?_cons_succ] at q20 q21 q22
  have hnu := not_uvI c3
  have hall := hup.trans_ext hu1
  go_wp2
  exact bodyPost_ret (v := .agg #[.slice gr nr cr, .bool lr, .int .i64 mr]) (by simp [results, Tryd.results73, go_sem, q20, q21, q22]) rfl ⟨_, _, _, _, _, rfl, (((hall).setCell (p := ⟨w.heap.size, 0, none⟩) (Or.inr (Nat.le_refl _)) (.slice gr nr cr)).setCell (p := ⟨w.heap.size, 1, none⟩) (Or.inr (Nat.le_refl _)) (.bool lr)).setCell (p := ⟨w.heap.size, 2, none⟩) (Or.inr (Nat.le_refl _)) (.int .i64 mr), ringI.stab2 _ _ _ _ _ _ hr ((((Upto.refl [w.heap.size] w1).setCell (p := ⟨w.heap.size, 0, none⟩) (Or.inl (by simp)) (.slice gr nr cr)).setCell (p := ⟨w.heap.size, 1, none⟩) (Or.inl (by simp)) (.bool lr)).setCell (p := ⟨w.heap.size, 2, none⟩) (Or.inl (by simp)) (.int .i64 mr)) hnu⟩

set_option maxRecDepth 100000 in
set_option maxHeartbeats 1600000 in
theorem O_half_add2 (i j : Nat) (hij : i + j ≤ 20) (pa pb : Nat) (ka : Bool) (ga : Option Addr) (na : Nat) (ca : Nat) (la : Bool) (ma : Int) (kb : Bool) (gb : Option Addr) (nb : Nat) (cb : Nat) (lb : Bool) (mb : Int) {x y : (Nat × (Option Int))} (w : World)
    (ba : w.heap[pa]? = some (.cells #[.bool ka, .slice ga na ca, .bool la, .int .i64 ma] 80)) (bb : w.heap[pb]? = some (.cells #[.bool kb, .slice gb nb cb, .bool lb, .int .i64 mb] 80)) (ha : RepI i w (.agg #[.slice ga na ca, .bool la, .int .i64 ma]) x) (hb : RepI j w (.agg #[.slice gb nb cb, .bool lb, .int .i64 mb]) y) :
    Calls Tryd.prog 72 #[.iface 70 (.agg #[.iface 42 (.agg #[]), .iface 29 (.agg #[])]), .func (.func 73) #[] #[.pointer (some ⟨pa, 0, none⟩), .pointer (some ⟨pb, 0, none⟩)]] w fun e w' => ∃ g n c l m, e = .returned (.agg #[.slice g n c, .bool l, .int .i64 m]) ∧ Upto [] w w' ∧ RepI (i + j) w' (.agg #[.slice g n c, .bool l, .int .i64 m]) ((fun a b => ((fun a b => a + b) a.1 b.1, minO a.2 b.2)) x y) := by
  have H := Lib.hid (fun u (hu : Upto [] w u) => O_add2 i j hij pa pb ka ga na ca la ma kb gb nb cb lb mb u (hu.at ba (by simp)) (hu.at bb (by simp)) (ringI.stable _ _ _ _ _ ha hu) (ringI.stable _ _ _ _ _ hb hu))
  have b3 := new_at w (.cells #[.slice none 0 0, .bool false, .int .i64 0] 78)
  have hup : Upto [] w (w.alloc (.cells #[.slice none 0 0, .bool false, .int .i64 0] 78)) := (Upto.refl [] w).alloc _
  clear ba bb ha hb
  have qn : ∀ w, (binOp .eql 74 (.iface 70 (.agg #[.iface 42 (.agg #[]), .iface 29 (.agg #[])])) .nilIface).run Tryd.prog w = .ok (.bool false) w := fun _ => by kernel_rfl
  go_enter Tryd.func72, Tryd.ntmps72
  go_wp2_with fail
  refine (H.out _ hup).mono ?_
  rintro e w1 ⟨gr, nr, cr, lr, mr, rfl, hu1, hr⟩
  clear H
  have c3 := hu1.at b3 (by simp)
  have f20 := free_of c3 0
  have q20 := cell_of c3 0
  have f21 := free_of c3 1
  have q21 := cell_of c3 1
  have f22 := free_of c3 2
  have q22 := cell_of c3 2
  simp only [List.getElem?_toArray, List.getElem?_cons_zero, List.getElem?_cons_succ] at q20 q21 q22
  have hnu := not_uvI c3
  have hall := hup.trans_ext hu1
  go_wp2
  exact bodyPost_ret (v := .agg #[.slice gr nr cr, .bool lr, .int .i64 mr]) (by simp [results, Tryd.results72, go_sem, q20, q21, q22]) rfl ⟨_, _, _, _, _, rfl, (((hall).setCell (p := ⟨w.heap.size, 0, none⟩) (Or.inr (Nat.le_refl _)) (.slice gr nr cr)).setCell (p := ⟨w.heap.size, 1, none⟩) (Or.inr (Nat.le_refl _)) (.bool lr)).setCell (p := ⟨w.heap.size, 2, none⟩) (Or.inr (Nat.le_refl _)) (.int .i64 mr), ringI.stab2 _ _ _ _ _ _ hr ((((Upto.refl [w.heap.size] w1).setCell (p := ⟨w.heap.size, 0, none⟩) (Or.inl (by simp)) (.slice gr nr cr)).setCell (p := ⟨w.heap.size, 1, none⟩) (Or.inl (by simp)) (.bool lr)).setCell (p := ⟨w.heap.size, 2, none⟩) (Or.inl (by simp)) (.int .i64 mr)) hnu⟩

set_option maxRecDepth 100000 in
set_option maxHeartbeats 1600000 in
theorem O_mul1 (i j : Nat) (hij : i + j ≤ 20) (pa pb : Nat) (ka : Bool) (ga : Option Addr) (na : Nat) (ca : Nat) (la : Bool) (ma : Int) (kb : Bool) (gb : Option Addr) (nb : Nat) (cb : Nat) (lb : Bool) (mb : Int) {x y : Bool} (w : World)
    (ba : w.heap[pa]? = some (.cells #[.bool ka, .slice ga na ca, .bool la, .int .i64 ma] 80)) (bb : w.heap[pb]? = some (.cells #[.bool kb, .slice gb nb cb, .bool lb, .int .i64 mb] 80)) (ha : RepB i w (.bool ka) x) (hb : RepB j w (.bool kb) y) :
    Calls Tryd.prog 74 #[.iface 23 (.agg #[]), .pointer (some ⟨pa, 0, none⟩), .pointer (some ⟨pb, 0, none⟩)] w fun e w' => ∃ k, e = .returned (.bool k) ∧ Upto [] w w' ∧ RepB (i + j) w' (.bool k) ((fun a b => a && b) x y) := by
  have H := Lib.hid (fun u (hu : Upto [] w u) => ringB.hm i j u _ _ x y hij (ringB.stable _ _ _ _ _ ha hu) (ringB.stable _ _ _ _ _ hb hu))
  have a0 := cell_of ba 0
  have b10 := cell_of bb 0
  simp only [List.getElem?_toArray, List.getElem?_cons_zero, List.getElem?_cons_succ] at a0 b10
  have la := lt_of_heap ba
  have lb := lt_of_heap bb
  have hup := Upto.refl [] w
  clear ba bb ha hb
  have mMB : ∀ w, (method 292 23 (.agg #[]) "Mul").run Tryd.prog w = .ok (14, .agg #[]) w := fun _ => by kernel_rfl
  go_enter Tryd.func74, Tryd.ntmps74
  go_wp2_with fail
  refine (H.out _ hup).mono ?_
  rintro e w1 ⟨v, rfl, hu1, hr⟩
  obtain ⟨kr, rfl⟩ := repB_shape _ _ _ _ hr
  clear H
  go_wp2
  go_ret
  exact ⟨_, rfl, hup.trans_ext hu1, hr⟩

set_option maxRecDepth 100000 in
set_option maxHeartbeats 1600000 in
theorem O_half_mul1 (i j : Nat) (hij : i + j ≤ 20) (pa pb : Nat) (ka : Bool) (ga : Option Addr) (na : Nat) (ca : Nat) (la : Bool) (ma : Int) (kb : Bool) (gb : Option Addr) (nb : Nat) (cb : Nat) (lb : Bool) (mb : Int) {x y : Bool} (w : World)
    (ba : w.heap[pa]? = some (.cells #[.bool ka, .slice ga na ca, .bool la, .int .i64 ma] 80)) (bb : w.heap[pb]? = some (.cells #[.bool kb, .slice gb nb cb, .bool lb, .int .i64 mb] 80)) (ha : RepB i w (.bool ka) x) (hb : RepB j w (.bool kb) y) :
    Calls Tryd.prog 70 #[.iface 23 (.agg #[]), .func (.func 74) #[] #[.pointer (some ⟨pa, 0, none⟩), .pointer (some ⟨pb, 0, none⟩)]] w fun e w' => ∃ k, e = .returned (.bool k) ∧ Upto [] w w' ∧ RepB (i + j) w' (.bool k) ((fun a b => a && b) x y) := by
  have H := Lib.hid (fun u (hu : Upto [] w u) => O_mul1 i j hij pa pb ka ga na ca la ma kb gb nb cb lb mb u (hu.at ba (by simp)) (hu.at bb (by simp)) (ringB.stable _ _ _ _ _ ha hu) (ringB.stable _ _ _ _ _ hb hu))
  have hup := Upto.refl [] w
  clear ba bb ha hb
  have qn : ∀ w, (binOp .eql 72 (.iface 23 (.agg #[])) .nilIface).run Tryd.prog w = .ok (.bool false) w := fun _ => by kernel_rfl
  go_enter Tryd.func70, Tryd.ntmps70
  go_wp2_with fail
  refine (H.out _ hup).mono ?_
  rintro e w1 ⟨kr, rfl, hu1, hr⟩
  clear H
  go_wp2
  go_ret
  exact ⟨_, rfl, hup.trans_ext hu1, hr⟩

set_option maxRecDepth 100000 in
set_option maxHeartbeats 1600000 in
theorem O_mul2 (i j : Nat) (hij : i + j ≤ 20) (pa pb : Nat) (ka : Bool) (ga : Option Addr) (na : Nat) (ca : Nat) (la : Bool) (ma : Int) (kb : Bool) (gb : Option Addr) (nb : Nat) (cb : Nat) (lb : Bool) (mb : Int) {x y : (Nat × (Option Int))} (w : World)
    (ba : w.heap[pa]? = some (.cells #[.bool ka, .slice ga na ca, .bool la, .int .i64 ma] 80)) (bb : w.heap[pb]? = some (.cells #[.bool kb, .slice gb nb cb, .bool lb, .int .i64 mb] 80)) (ha : RepI i w (.agg #[.slice ga na ca, .bool la, .int .i64 ma]) x) (hb : RepI j w (.agg #[.slice gb nb cb, .bool lb, .int .i64 mb]) y) :
    Calls Tryd.prog 75 #[.iface 70 (.agg #[.iface 42 (.agg #[]), .iface 29 (.agg #[])]), .pointer (some ⟨pa, 0, none⟩), .pointer (some ⟨pb, 0, none⟩)] w fun e w' => ∃ g n c l m, e = .returned (.agg #[.slice g n c, .bool l, .int .i64 m]) ∧ Upto [] w w' ∧ RepI (i + j) w' (.agg #[.slice g n c, .bool l, .int .i64 m]) ((fun a b => ((fun a b => a * b) a.1 b.1, mulO a.2 b.2)) x y) := by
  have H := Lib.hid (fun u (hu : Upto [] w u) => ringI.hm i j u _ _ x y hij (ringI.stable _ _ _ _ _ ha hu) (ringI.stable _ _ _ _ _ hb hu))
  have a0 := cell_of ba 1
  have b10 := cell_of bb 1
  have a1 := cell_of ba 2
  have b11 := cell_of bb 2
  have a2 := cell_of ba 3
  have b12 := cell_of bb 3
  simp only [List.getElem?_toArray, List.getElem?_cons_zero, List.getElem?_cons_succ] at a0 b10 a1 b11 a2 b12
  have la := lt_of_heap ba
  have lb := lt_of_heap bb
  have b3 := new_at w (.cells #[.slice none 0 0, .bool false, .int .i64 0] 78)
  have hup : Upto [] w (w.alloc (.cells #[.slice none 0 0, .bool false, .int .i64 0] 78)) := (Upto.refl [] w).alloc _
  clear ba bb ha hb
  have mMI : ∀ w, (method 292 70 (.agg #[.iface 42 (.agg #[]), .iface 29 (.agg #[])]) "Mul").run Tryd.prog w = .ok (141, .agg #[.iface 42 (.agg #[]), .iface 29 (.agg #[])]) w := fun _ => by kernel_rfl
  go_enter Tryd.func75, Tryd.ntmps75
  go_wp2_with fail
  refine (H.out _ hup).mono ?_
  rintro e w1 ⟨v, rfl, hu1, hr⟩
  obtain ⟨gr, nr, cr, lr, mr, rfl⟩ := repI_shape _ _ _ _ hr
  clear H
  have c3 := hu1.at b3 (by simp)
  have f20 := free_of c3 0
  have q20 := cell_of c3 0
  have f21 := free_of c3 1
  have q21 := cell_of c3 1
  have f22 := free_of c3 2
  have q22 := cell_of c3 2
  simp only [List.getElem?_toArray, List.getElem?_cons_zero, List.getElem?_cons_succ] at q20 q21 q22
  have hnu := not_uvI c3
  have hall := hup.trans_ext hu1
  go_wp2
  exact bodyPost_ret (v := .agg #[.slice gr nr cr, .bool lr, .int .i64 mr]) (by simp [results, Tryd.results75, go_sem, q20, q21, q22]) rfl ⟨_, _, _, _, _, rfl, (((hall).setCell (p := ⟨w.heap.size, 0, none⟩) (Or.inr (Nat.le_refl _)) (.slice gr nr cr)).setCell (p := ⟨w.heap.size, 1, none⟩) (Or.inr (Nat.le_refl _)) (.bool lr)).setCell (p := ⟨w.heap.size, 2, none⟩) (Or.inr (Nat.le_refl _)) (.int .i64 mr), ringI.stab2 _ _ _ _ _ _ hr ((((Upto.refl [w.heap.size] w1).setCell (p := ⟨w.heap.size, 0, none⟩) (Or.inl (by simp)) (.slice gr nr cr)).setCell (p := ⟨w.heap.size, 1, none⟩) (Or.inl (by simp)) (.bool lr)).setCell (p := ⟨w.heap.size, 2, none⟩) (Or.inl (by simp)) (.int .i64 mr)) hnu⟩

set_option maxRecDepth 100000 in
set_option maxHeartbeats 1600000 in
theorem O_half_mul2 (i j : Nat) (hij : i + j ≤ 20) (pa pb : Nat) (ka : Bool) (ga : Option Addr) (na : Nat) (ca : Nat) (la : Bool) (ma : Int) (kb : Bool) (gb : Option Addr) (nb : Nat) (cb : Nat) (lb : Bool) (mb : Int) {x y : (Nat × (Option Int))} (w : World)
    (ba : w.heap[pa]? = some (.cells #[.bool ka, .slice ga na ca, .bool la, .int .i64 ma] 80)) (bb : w.heap[pb]? = some (.cells #[.bool kb, .slice gb nb cb, .bool lb, .int .i64 mb] 80)) (ha : RepI i w (.agg #[.slice ga na ca, .bool la, .int .i64 ma]) x) (hb : RepI j w (.agg #[.slice gb nb cb, .bool lb, .int .i64 mb]) y) :
    Calls Tryd.prog 72 #[.iface 70 (.agg #[.iface 42 (.agg #[]), .iface 29 (.agg #[])]), .func (.func 75) #[] #[.pointer (some ⟨pa, 0, none⟩), .pointer (some ⟨pb, 0, none⟩)]] w fun e w' => ∃ g n c l m, e = .returned (.agg #[.slice g n c, .bool l, .int .i64 m]) ∧ Upto [] w w' ∧ RepI (i + j) w' (.agg #[.slice g n c, .bool l, .int .i64 m]) ((fun a b => ((fun a b => a * b) a.1 b.1, mulO a.2 b.2)) x y) := by
  have H := Lib.hid (fun u (hu : Upto [] w u) => O_mul2 i j hij pa pb ka ga na ca la ma kb gb nb cb lb mb u (hu.at ba (by simp)) (hu.at bb (by simp)) (ringI.stable _ _ _ _ _ ha hu) (ringI.stable _ _ _ _ _ hb hu))
  have b3 := new_at w (.cells #[.slice none 0 0, .bool false, .int .i64 0] 78)
  have hup : Upto [] w (w.alloc (.cells #[.slice none 0 0, .bool false, .int .i64 0] 78)) := (Upto.refl [] w).alloc _
  clear ba bb ha hb
  have qn : ∀ w, (binOp .eql 74 (.iface 70 (.agg #[.iface 42 (.agg #[]), .iface 29 (.agg #[])])) .nilIface).run Tryd.prog w = .ok (.bool false) w := fun _ => by kernel_rfl
  go_enter Tryd.func72, Tryd.ntmps72
  go_wp2_with fail
  refine (H.out _ hup).mono ?_
  rintro e w1 ⟨gr, nr, cr, lr, mr, rfl, hu1, hr⟩
  clear H
  have c3 := hu1.at b3 (by simp)
  have f20 := free_of c3 0
  have q20 := cell_of c3 0
  have f21 := free_of c3 1
  have q21 := cell_of c3 1
  have f22 := free_of c3 2
  have q22 := cell_of c3 2
  simp only [List.getElem?_toArray, List.getElem?_cons_zero, List.getElem?_cons_succ] at q20 q21 q22
  have hnu := not_uvI c3
  have hall := hup.trans_ext hu1
  go_wp2
  exact bodyPost_ret (v := .agg #[.slice gr nr cr, .bool lr, .int .i64 mr]) (by simp [results, Tryd.results72, go_sem, q20, q21, q22]) rfl ⟨_, _, _, _, _, rfl, (((hall).setCell (p := ⟨w.heap.size, 0, none⟩) (Or.inr (Nat.le_refl _)) (.slice gr nr cr)).setCell (p := ⟨w.heap.size, 1, none⟩) (Or.inr (Nat.le_refl _)) (.bool lr)).setCell (p := ⟨w.heap.size, 2, none⟩) (Or.inr (Nat.le_refl _)) (.int .i64 mr), ringI.stab2 _ _ _ _ _ _ hr ((((Upto.refl [w.heap.size] w1).setCell (p := ⟨w.heap.size, 0, none⟩) (Or.inl (by simp)) (.slice gr nr cr)).setCell (p := ⟨w.heap.size, 1, none⟩) (Or.inl (by simp)) (.bool lr)).setCell (p := ⟨w.heap.size, 2, none⟩) (Or.inl (by simp)) (.int .i64 mr)) hnu⟩

set_option maxRecDepth 100000 in
set_option maxHeartbeats 1600000 in
theorem O_half_Zero1 (w : World) :
    Calls Tryd.prog 70 #[.iface 23 (.agg #[]), .func (.methodOf 72 "Zero") #[] #[]] w fun e w' => ∃ k, e = .returned (.bool k) ∧ Upto [] w w' ∧ RepB 1 w' (.bool k) false := by
  have H := Lib.hid (fun u (_ : Upto [] w u) => ringB.hz u)
  have mZB : ∀ w, (method 292 23 (.agg #[]) "Zero").run Tryd.prog w = .ok (11, .agg #[]) w := fun _ => by kernel_rfl
  have hup := Upto.refl [] w
  have qn : ∀ w, (binOp .eql 72 (.iface 23 (.agg #[])) .nilIface).run Tryd.prog w = .ok (.bool false) w := fun _ => by kernel_rfl
  go_enter Tryd.func70, Tryd.ntmps70
  go_wp2_with fail
  refine (H.out _ hup).mono ?_
  rintro e w1 ⟨v, rfl, hu1, hr⟩
  obtain ⟨kr, rfl⟩ := repB_shape _ _ _ _ hr
  clear H
  go_wp2
  go_ret
  exact ⟨_, rfl, hup.trans_ext hu1, hr⟩

set_option maxRecDepth 100000 in
set_option maxHeartbeats 1600000 in
theorem O_half_Zero2 (w : World) :
    Calls Tryd.prog 72 #[.iface 70 (.agg #[.iface 42 (.agg #[]), .iface 29 (.agg #[])]), .func (.methodOf 74 "Zero") #[] #[]] w fun e w' => ∃ g n c l m, e = .returned (.agg #[.slice g n c, .bool l, .int .i64 m]) ∧ Upto [] w w' ∧ RepI 1 w' (.agg #[.slice g n c, .bool l, .int .i64 m]) (0, none) := by
  have H := Lib.hid (fun u (_ : Upto [] w u) => ringI.hz u)
  have mZI : ∀ w, (method 292 70 (.agg #[.iface 42 (.agg #[]), .iface 29 (.agg #[])]) "Zero").run Tryd.prog w = .ok (144, .agg #[.iface 42 (.agg #[]), .iface 29 (.agg #[])]) w := fun _ => by kernel_rfl
  have b3 := new_at w (.cells #[.slice none 0 0, .bool false, .int .i64 0] 78)
  have hup : Upto [] w (w.alloc (.cells #[.slice none 0 0, .bool false, .int .i64 0] 78)) := (Upto.refl [] w).alloc _
  have qn : ∀ w, (binOp .eql 74 (.iface 70 (.agg #[.iface 42 (.agg #[]), .iface 29 (.agg #[])])) .nilIface).run Tryd.prog w = .ok (.bool false) w := fun _ => by kernel_rfl
  go_enter Tryd.func72, Tryd.ntmps72
  go_wp2_with fail
  refine (H.out _ hup).mono ?_
  rintro e w1 ⟨v, rfl, hu1, hr⟩
  obtain ⟨gr, nr, cr, lr, mr, rfl⟩ := repI_shape _ _ _ _ hr
  clear H
  have c3 := hu1.at b3 (by simp)
  have f20 := free_of c3 0
  have q20 := cell_of c3 0
  have f21 := free_of c3 1
  have q21 := cell_of c3 1
  have f22 := free_of c3 2
  have q22 := cell_of c3 2
  simp only [List.getElem?_toArray, List.getElem?_cons_zero, List.getElem?_cons_succ] at q20 q21 q22
  have hnu := not_uvI c3
  have hall := hup.trans_ext hu1
  go_wp2
  exact bodyPost_ret (v := .agg #[.slice gr nr cr, .bool lr, .int .i64 mr]) (by simp [results, Tryd.results72, go_sem, q20, q21, q22]) rfl ⟨_, _, _, _, _, rfl, (((hall).setCell (p := ⟨w.heap.size, 0, none⟩) (Or.inr (Nat.le_refl _)) (.slice gr nr cr)).setCell (p := ⟨w.heap.size, 1, none⟩) (Or.inr (Nat.le_refl _)) (.bool lr)).setCell (p := ⟨w.heap.size, 2, none⟩) (Or.inr (Nat.le_refl _)) (.int .i64 mr), ringI.stab2 _ _ _ _ _ _ hr ((((Upto.refl [w.heap.size] w1).setCell (p := ⟨w.heap.size, 0, none⟩) (Or.inl (by simp)) (.slice gr nr cr)).setCell (p := ⟨w.heap.size, 1, none⟩) (Or.inl (by simp)) (.bool lr)).setCell (p := ⟨w.heap.size, 2, none⟩) (Or.inl (by simp)) (.int .i64 mr)) hnu⟩

set_option maxRecDepth 100000 in
set_option maxHeartbeats 1600000 in
theorem O_half_One1 (w : World) :
    Calls Tryd.prog 70 #[.iface 23 (.agg #[]), .func (.methodOf 72 "One") #[] #[]] w fun e w' => ∃ k, e = .returned (.bool k) ∧ Upto [] w w' ∧ RepB 1 w' (.bool k) true := by
  have H := Lib.hid (fun u (_ : Upto [] w u) => ringB.ho u)
  have mOB : ∀ w, (method 292 23 (.agg #[]) "One").run Tryd.prog w = .ok (12, .agg #[]) w := fun _ => by kernel_rfl
  have hup := Upto.refl [] w
  have qn : ∀ w, (binOp .eql 72 (.iface 23 (.agg #[])) .nilIface).run Tryd.prog w = .ok (.bool false) w := fun _ => by kernel_rfl
  go_enter Tryd.func70, Tryd.ntmps70
  go_wp2_with fail
  refine (H.out _ hup).mono ?_
  rintro e w1 ⟨v, rfl, hu1, hr⟩
  obtain ⟨kr, rfl⟩ := repB_shape _ _ _ _ hr
  clear H
  go_wp2
  go_ret
  exact ⟨_, rfl, hup.trans_ext hu1, hr⟩

set_option maxRecDepth 100000 in
set_option maxHeartbeats 1600000 in
theorem O_half_One2 (w : World) :
    Calls Tryd.prog 72 #[.iface 70 (.agg #[.iface 42 (.agg #[]), .iface 29 (.agg #[])]), .func (.methodOf 74 "One") #[] #[]] w fun e w' => ∃ g n c l m, e = .returned (.agg #[.slice g n c, .bool l, .int .i64 m]) ∧ Upto [] w w' ∧ RepI 1 w' (.agg #[.slice g n c, .bool l, .int .i64 m]) (1, (some 0)) := by
  have H := Lib.hid (fun u (_ : Upto [] w u) => ringI.ho u)
  have mOI : ∀ w, (method 292 70 (.agg #[.iface 42 (.agg #[]), .iface 29 (.agg #[])]) "One").run Tryd.prog w = .ok (142, .agg #[.iface 42 (.agg #[]), .iface 29 (.agg #[])]) w := fun _ => by kernel_rfl
  have b3 := new_at w (.cells #[.slice none 0 0, .bool false, .int .i64 0] 78)
  have hup : Upto [] w (w.alloc (.cells #[.slice none 0 0, .bool false, .int .i64 0] 78)) := (Upto.refl [] w).alloc _
  have qn : ∀ w, (binOp .eql 74 (.iface 70 (.agg #[.iface 42 (.agg #[]), .iface 29 (.agg #[])])) .nilIface).run Tryd.prog w = .ok (.bool false) w := fun _ => by kernel_rfl
  go_enter Tryd.func72, Tryd.ntmps72
  go_wp2_with fail
  refine (H.out _ hup).mono ?_
  rintro e w1 ⟨v, rfl, hu1, hr⟩
  obtain ⟨gr, nr, cr, lr, mr, rfl⟩ := repI_shape _ _ _ _ hr
  clear H
  have c3 := hu1.at b3 (by simp)
  have f20 := free_of c3 0
  have q20 := cell_of c3 0
  have f21 := free_of c3 1
  have q21 := cell_of c3 1
  have f22 := free_of c3 2
  have q22 := cell_of c3 2
  simp only [List.getElem?_toArray, List.getElem?_cons_zero, List.getElem?_cons_succ] at q20 q21 q22
  have hnu := not_uvI c3
  have hall := hup.trans_ext hu1
  go_wp2
  exact bodyPost_ret (v := .agg #[.slice gr nr cr, .bool lr, .int .i64 mr]) (by simp [results, Tryd.results72, go_sem, q20, q21, q22]) rfl ⟨_, _, _, _, _, rfl, (((hall).setCell (p := ⟨w.heap.size, 0, none⟩) (Or.inr (Nat.le_refl _)) (.slice gr nr cr)).setCell (p := ⟨w.heap.size, 1, none⟩) (Or.inr (Nat.le_refl _)) (.bool lr)).setCell (p := ⟨w.heap.size, 2, none⟩) (Or.inr (Nat.le_refl _)) (.int .i64 mr), ringI.stab2 _ _ _ _ _ _ hr ((((Upto.refl [w.heap.size] w1).setCell (p := ⟨w.heap.size, 0, none⟩) (Or.inl (by simp)) (.slice gr nr cr)).setCell (p := ⟨w.heap.size, 1, none⟩) (Or.inl (by simp)) (.bool lr)).setCell (p := ⟨w.heap.size, 2, none⟩) (Or.inl (by simp)) (.int .i64 mr)) hnu⟩

set_option maxRecDepth 100000 in
set_option maxHeartbeats 1600000 in
theorem O_add_calls (i j : Nat) (hij : i + j ≤ 20) (ka : Bool) (ga : Option Addr) (na : Nat) (ca : Nat) (la : Bool) (ma : Int) (kb : Bool) (gb : Option Addr) (nb : Nat) (cb : Nat) (lb : Bool) (mb : Int) {x y : Bool} {x2 y2 : (Nat × (Option Int))} (w : World)
    (ha : RepB i w (.bool ka) x) (hb : RepB j w (.bool kb) y) (ha2 : RepI i w (.agg #[.slice ga na ca, .bool la, .int .i64 ma]) x2) (hb2 : RepI j w (.agg #[.slice gb nb cb, .bool lb, .int .i64 mb]) y2) :
    Calls Tryd.prog 44 #[.agg #[.iface 23 (.agg #[]), .iface 70 (.agg #[.iface 42 (.agg #[]), .iface 29 (.agg #[])])], .agg #[.bool ka, .slice ga na ca, .bool la, .int .i64 ma], .agg #[.bool kb, .slice gb nb cb, .bool lb, .int .i64 mb]] w fun e w' => ∃ k g n c l m, e = .returned (.agg #[.bool k, .slice g n c, .bool l, .int .i64 m]) ∧ Upto [] w w' ∧ RepB (i + j) w' (.bool k) ((fun a b => a || b) x y) ∧ RepI (i + j) w' (.agg #[.slice g n c, .bool l, .int .i64 m]) ((fun a b => ((fun a b => a + b) a.1 b.1, minO a.2 b.2)) x2 y2) := by
  obtain ⟨W, hW⟩ : ∃ W, W = ((((w.alloc (.cells #[.iface 23 (.agg #[]), .iface 70 (.agg #[.iface 42 (.agg #[]), .iface 29 (.agg #[])])] 76)).alloc (.cells #[.bool ka, .slice ga na ca, .bool la, .int .i64 ma] 80)).alloc (.cells #[.bool kb, .slice gb nb cb, .bool lb, .int .i64 mb] 80)).alloc (.cells #[.bool false, .slice none 0 0, .bool false, .int .i64 0] 80)) := ⟨_, rfl⟩
  have hup : Upto [] w W := by rw [hW]; exact ((((Upto.refl [] w).alloc _).alloc _).alloc _).alloc _
  have d0 := alloc_old (alloc_old (alloc_old (new_at w (.cells #[.iface 23 (.agg #[]), .iface 70 (.agg #[.iface 42 (.agg #[]), .iface 29 (.agg #[])])] 76)) (.cells #[.bool ka, .slice ga na ca, .bool la, .int .i64 ma] 80)) (.cells #[.bool kb, .slice gb nb cb, .bool lb, .int .i64 mb] 80)) (.cells #[.bool false, .slice none 0 0, .bool false, .int .i64 0] 80)
  rw [← hW] at d0
  try simp only [World.size_alloc] at d0
  have d1 := alloc_old (alloc_old (new_at (w.alloc (.cells #[.iface 23 (.agg #[]), .iface 70 (.agg #[.iface 42 (.agg #[]), .iface 29 (.agg #[])])] 76)) (.cells #[.bool ka, .slice ga na ca, .bool la, .int .i64 ma] 80)) (.cells #[.bool kb, .slice gb nb cb, .bool lb, .int .i64 mb] 80)) (.cells #[.bool false, .slice none 0 0, .bool false, .int .i64 0] 80)
  rw [← hW] at d1
  try simp only [World.size_alloc] at d1
  have d2 := alloc_old (new_at ((w.alloc (.cells #[.iface 23 (.agg #[]), .iface 70 (.agg #[.iface 42 (.agg #[]), .iface 29 (.agg #[])])] 76)).alloc (.cells #[.bool ka, .slice ga na ca, .bool la, .int .i64 ma] 80)) (.cells #[.bool kb, .slice gb nb cb, .bool lb, .int .i64 mb] 80)) (.cells #[.bool false, .slice none 0 0, .bool false, .int .i64 0] 80)
  rw [← hW] at d2
  try simp only [World.size_alloc] at d2
  have d3 := new_at (((w.alloc (.cells #[.iface 23 (.agg #[]), .iface 70 (.agg #[.iface 42 (.agg #[]), .iface 29 (.agg #[])])] 76)).alloc (.cells #[.bool ka, .slice ga na ca, .bool la, .int .i64 ma] 80)).alloc (.cells #[.bool kb, .slice gb nb cb, .bool lb, .int .i64 mb] 80)) (.cells #[.bool false, .slice none 0 0, .bool false, .int .i64 0] 80)
  rw [← hW] at d3
  try simp only [World.size_alloc] at d3
  replace ha := ringB.stable _ _ _ _ _ ha hup
  replace hb := ringB.stable _ _ _ _ _ hb hup
  replace ha2 := ringI.stable _ _ _ _ _ ha2 hup
  replace hb2 := ringI.stable _ _ _ _ _ hb2 hup
  go_enter Tryd.func44, Tryd.ntmps44
  go_wp2_with fail
  simp only [← hW]
  generalize hsz : w.heap.size = sz at *
  clear hW
  have i0 : ∀ u : Ext W, u.w.cell? ⟨sz, 0, none⟩ = some (.iface 23 (.agg #[])) := fun u => u.cell (cell_of d0 0)
  have i1 : ∀ u : Ext W, u.w.cell? ⟨sz, 1, none⟩ = some (.iface 70 (.agg #[.iface 42 (.agg #[]), .iface 29 (.agg #[])])) := fun u => u.cell (cell_of d0 1)
  refine wp_region_seg_at [3, 7] [] [0, 1, 2, 3, 4, 5, 6, 7, 8] [9] 9 (by kernel_rfl) (by kernel_rfl) (by kernel_rfl) ?_
  refine seg_plain rfl rfl rfl rfl rfl ?_
  intro K' hK'
  go_big_quiet_op
  go_big_quiet_on
  refine seg_plain rfl rfl rfl rfl rfl ?_
  intro K' hK'
  go_big_quiet_op
  go_big_quiet_on
  refine seg_plain rfl rfl rfl rfl rfl ?_
  intro K' hK'
  go_big_quiet_op
  go_big_quiet_on
  refine seg_callO (Y := Bool) (fun tt => .bool (tt)) (fun tt u => RepB (i + j) u (.bool (tt)) ((fun a b => a || b) x y)) (fun _ => []) rfl rfl rfl rfl (fun y u u' h hu => ringB.stable _ _ _ _ _ h hu) (fun _ => List.nodup_nil) (fun w => by go_simp) (fun w hu hd => (O_half_add1 i j hij (sz + 1) (sz + 1 + 1) ka ga na ca la ma kb gb nb cb lb mb w (hu.at d1 (by simp)) (hu.at d2 (by simp)) (ringB.stable _ _ _ _ _ ha hu) (ringB.stable _ _ _ _ _ hb hu)).mono fun e w' ⟨kr, h1, h2, h3⟩ => ⟨kr, h1, h2, h3, fun b hb => by cases hb⟩) ?_
  intro kr
  simp only [Act.put, List.setIfInBounds_toArray, List.set_cons_zero, List.set_cons_succ]
  refine seg_plain rfl rfl rfl rfl rfl ?_
  intro K' hK'
  go_big_quiet_op
  go_big_quiet_on
  refine seg_plain rfl rfl rfl rfl rfl ?_
  intro K' hK'
  go_big_quiet_op
  go_big_quiet_on
  refine seg_plain rfl rfl rfl rfl rfl ?_
  intro K' hK'
  go_big_quiet_op
  go_big_quiet_on
  refine seg_callO (Y := Option Addr × Nat × Nat × Bool × Int) (fun tt => .agg #[.slice (tt.1) (tt.2.1) (tt.2.2.1), .bool (tt.2.2.2.1), .int .i64 (tt.2.2.2.2)]) (fun tt u => RepI (i + j) u (.agg #[.slice (tt.1) (tt.2.1) (tt.2.2.1), .bool (tt.2.2.2.1), .int .i64 (tt.2.2.2.2)]) ((fun a b => ((fun a b => a + b) a.1 b.1, minO a.2 b.2)) x2 y2)) (fun _ => []) rfl rfl rfl rfl (fun y u u' h hu => ringI.stable _ _ _ _ _ h hu) (fun _ => List.nodup_nil) (fun w => by go_simp) (fun w hu hd => (O_half_add2 i j hij (sz + 1) (sz + 1 + 1) ka ga na ca la ma kb gb nb cb lb mb w (hu.at d1 (by simp)) (hu.at d2 (by simp)) (ringI.stable _ _ _ _ _ ha2 hu) (ringI.stable _ _ _ _ _ hb2 hu)).mono fun e w' ⟨gr, nr, cr, lr, mr, h1, h2, h3⟩ => ⟨(gr, nr, cr, lr, mr), h1, h2, h3, fun b hb => by cases hb⟩) ?_
  rintro ⟨gr, nr, cr, lr, mr⟩
  simp only [Act.put, List.setIfInBounds_toArray, List.set_cons_zero, List.set_cons_succ]
  refine seg_plain rfl rfl rfl rfl rfl ?_
  intro K' hK'
  go_big_quiet_op
  go_big_quiet_on
  intro w9 hg
  have hv := hg.up
  have hrB := hg.hold.1
  have hrA := hg.hold.2.1
  simp only at hrA hrB
  clear hg i0 i1
  simp only [List.drop_succ_cons, List.drop_zero]
  have c3 := hv.at d3 (by simp)
  have f20 := free_of c3 0
  have q20 := cell_of c3 0
  have f21 := free_of c3 1
  have q21 := cell_of c3 1
  have f22 := free_of c3 2
  have q22 := cell_of c3 2
  have f23 := free_of c3 3
  have q23 := cell_of c3 3
  simp only [List.getElem?_toArray, List.getElem?_cons_zero, List.getElem?_cons_succ] at q20 q21 q22 q23
  have hnu := not_uvO c3
  have hall := hup.trans_ext hv
  clear hv d0 d1 d2 d3
  have hsz2 := hsz
  clear ha hb ha2 hb2
  go_wp2
  have hst : Upto [sz + 1 + 1 + 1] w9 _ := ((((Upto.refl [sz + 1 + 1 + 1] w9).setCell (p := ⟨sz + 1 + 1 + 1, 0, none⟩) (Or.inl (by simp)) (.bool kr)).setCell (p := ⟨sz + 1 + 1 + 1, 1, none⟩) (Or.inl (by simp)) (.slice gr nr cr)).setCell (p := ⟨sz + 1 + 1 + 1, 2, none⟩) (Or.inl (by simp)) (.bool lr)).setCell (p := ⟨sz + 1 + 1 + 1, 3, none⟩) (Or.inl (by simp)) (.int .i64 mr)
  exact bodyPost_ret (v := .agg #[.bool kr, .slice gr nr cr, .bool lr, .int .i64 mr]) (by simp [results, Tryd.results44, go_sem, q20, q21, q22, q23]) rfl ⟨_, _, _, _, _, _, rfl, ((((hall).setCell (p := ⟨sz + 1 + 1 + 1, 0, none⟩) (Or.inr (by show _ ≤ sz + 1 + 1 + 1; omega)) (.bool kr)).setCell (p := ⟨sz + 1 + 1 + 1, 1, none⟩) (Or.inr (by show _ ≤ sz + 1 + 1 + 1; omega)) (.slice gr nr cr)).setCell (p := ⟨sz + 1 + 1 + 1, 2, none⟩) (Or.inr (by show _ ≤ sz + 1 + 1 + 1; omega)) (.bool lr)).setCell (p := ⟨sz + 1 + 1 + 1, 3, none⟩) (Or.inr (by show _ ≤ sz + 1 + 1 + 1; omega)) (.int .i64 mr), ringB.stab2 _ _ _ _ _ _ hrA hst hnu, ringI.stab2 _ _ _ _ _ _ hrB hst hnu⟩

set_option maxRecDepth 100000 in
set_option maxHeartbeats 1600000 in
theorem O_mul_calls (i j : Nat) (hij : i + j ≤ 20) (ka : Bool) (ga : Option Addr) (na : Nat) (ca : Nat) (la : Bool) (ma : Int) (kb : Bool) (gb : Option Addr) (nb : Nat) (cb : Nat) (lb : Bool) (mb : Int) {x y : Bool} {x2 y2 : (Nat × (Option Int))} (w : World)
    (ha : RepB i w (.bool ka) x) (hb : RepB j w (.bool kb) y) (ha2 : RepI i w (.agg #[.slice ga na ca, .bool la, .int .i64 ma]) x2) (hb2 : RepI j w (.agg #[.slice gb nb cb, .bool lb, .int .i64 mb]) y2) :
    Calls Tryd.prog 45 #[.agg #[.iface 23 (.agg #[]), .iface 70 (.agg #[.iface 42 (.agg #[]), .iface 29 (.agg #[])])], .agg #[.bool ka, .slice ga na ca, .bool la, .int .i64 ma], .agg #[.bool kb, .slice gb nb cb, .bool lb, .int .i64 mb]] w fun e w' => ∃ k g n c l m, e = .returned (.agg #[.bool k, .slice g n c, .bool l, .int .i64 m]) ∧ Upto [] w w' ∧ RepB (i + j) w' (.bool k) ((fun a b => a && b) x y) ∧ RepI (i + j) w' (.agg #[.slice g n c, .bool l, .int .i64 m]) ((fun a b => ((fun a b => a * b) a.1 b.1, mulO a.2 b.2)) x2 y2) := by
  obtain ⟨W, hW⟩ : ∃ W, W = ((((w.alloc (.cells #[.iface 23 (.agg #[]), .iface 70 (.agg #[.iface 42 (.agg #[]), .iface 29 (.agg #[])])] 76)).alloc (.cells #[.bool ka, .slice ga na ca, .bool la, .int .i64 ma] 80)).alloc (.cells #[.bool kb, .slice gb nb cb, .bool lb, .int .i64 mb] 80)).alloc (.cells #[.bool false, .slice none 0 0, .bool false, .int .i64 0] 80)) := ⟨_, rfl⟩
  have hup : Upto [] w W := by rw [hW]; exact ((((Upto.refl [] w).alloc _).alloc _).alloc _).alloc _
  have d0 := alloc_old (alloc_old (alloc_old (new_at w (.cells #[.iface 23 (.agg #[]), .iface 70 (.agg #[.iface 42 (.agg #[]), .iface 29 (.agg #[])])] 76)) (.cells #[.bool ka, .slice ga na ca, .bool la, .int .i64 ma] 80)) (.cells #[.bool kb, .slice gb nb cb, .bool lb, .int .i64 mb] 80)) (.cells #[.bool false, .slice none 0 0, .bool false, .int .i64 0] 80)
  rw [← hW] at d0
  try simp only [World.size_alloc] at d0
  have d1 := alloc_old (alloc_old (new_at (w.alloc (.cells #[.iface 23 (.agg #[]), .iface 70 (.agg #[.iface 42 (.agg #[]), .iface 29 (.agg #[])])] 76)) (.cells #[.bool ka, .slice ga na ca, .bool la, .int .i64 ma] 80)) (.cells #[.bool kb, .slice gb nb cb, .bool lb, .int .i64 mb] 80)) (.cells #[.bool false, .slice none 0 0, .bool false, .int .i64 0] 80)
  rw [← hW] at d1
  try simp only [World.size_alloc] at d1
  have d2 := alloc_old (new_at ((w.alloc (.cells #[.iface 23 (.agg #[]), .iface 70 (.agg #[.iface 42 (.agg #[]), .iface 29 (.agg #[])])] 76)).alloc (.cells #[.bool ka, .slice ga na ca, .bool la, .int .i64 ma] 80)) (.cells #[.bool kb, .slice gb nb cb, .bool lb, .int .i64 mb] 80)) (.cells #[.bool false, .slice none 0 0, .bool false, .int .i64 0] 80)
  rw [← hW] at d2
  try simp only [World.size_alloc] at d2
  have d3 := new_at (((w.alloc (.cells #[.iface 23 (.agg #[]), .iface 70 (.agg #[.iface 42 (.agg #[]), .iface 29 (.agg #[])])] 76)).alloc (.cells #[.bool ka, .slice ga na ca, .bool la, .int .i64 ma] 80)).alloc (.cells #[.bool kb, .slice gb nb cb, .bool lb, .int .i64 mb] 80)) (.cells #[.bool false, .slice none 0 0, .bool false, .int .i64 0] 80)
  rw [← hW] at d3
  try simp only [World.size_alloc] at d3
  replace ha := ringB.stable _ _ _ _ _ ha hup
  replace hb := ringB.stable _ _ _ _ _ hb hup
  replace ha2 := ringI.stable _ _ _ _ _ ha2 hup
  replace hb2 := ringI.stable _ _ _ _ _ hb2 hup
  go_enter Tryd.func45, Tryd.ntmps45
  go_wp2_with fail
  simp only [← hW]
  generalize hsz : w.heap.size = sz at *
  clear hW
  have i0 : ∀ u : Ext W, u.w.cell? ⟨sz, 0, none⟩ = some (.iface 23 (.agg #[])) := fun u => u.cell (cell_of d0 0)
  have i1 : ∀ u : Ext W, u.w.cell? ⟨sz, 1, none⟩ = some (.iface 70 (.agg #[.iface 42 (.agg #[]), .iface 29 (.agg #[])])) := fun u => u.cell (cell_of d0 1)
  refine wp_region_seg_at [3, 7] [] [0, 1, 2, 3, 4, 5, 6, 7, 8] [9] 9 (by kernel_rfl) (by kernel_rfl) (by kernel_rfl) ?_
  refine seg_plain rfl rfl rfl rfl rfl ?_
  intro K' hK'
  go_big_quiet_op
  go_big_quiet_on
  refine seg_plain rfl rfl rfl rfl rfl ?_
  intro K' hK'
  go_big_quiet_op
  go_big_quiet_on
  refine seg_plain rfl rfl rfl rfl rfl ?_
  intro K' hK'
  go_big_quiet_op
  go_big_quiet_on
  refine seg_callO (Y := Bool) (fun tt => .bool (tt)) (fun tt u => RepB (i + j) u (.bool (tt)) ((fun a b => a && b) x y)) (fun _ => []) rfl rfl rfl rfl (fun y u u' h hu => ringB.stable _ _ _ _ _ h hu) (fun _ => List.nodup_nil) (fun w => by go_simp) (fun w hu hd => (O_half_mul1 i j hij (sz + 1) (sz + 1 + 1) ka ga na ca la ma kb gb nb cb lb mb w (hu.at d1 (by simp)) (hu.at d2 (by simp)) (ringB.stable _ _ _ _ _ ha hu) (ringB.stable _ _ _ _ _ hb hu)).mono fun e w' ⟨kr, h1, h2, h3⟩ => ⟨kr, h1, h2, h3, fun b hb => by cases hb⟩) ?_
  intro kr
  simp only [Act.put, List.setIfInBounds_toArray, List.set_cons_zero, List.set_cons_succ]
  refine seg_plain rfl rfl rfl rfl rfl ?_
  intro K' hK'
  go_big_quiet_op
  go_big_quiet_on
  refine seg_plain rfl rfl rfl rfl rfl ?_
  intro K' hK'
  go_big_quiet_op
  go_big_quiet_on
  refine seg_plain rfl rfl rfl rfl rfl ?_
  intro K' hK'
  go_big_quiet_op
  go_big_quiet_on
  refine seg_callO (Y := Option Addr × Nat × Nat × Bool × Int) (fun tt => .agg #[.slice (tt.1) (tt.2.1) (tt.2.2.1), .bool (tt.2.2.2.1), .int .i64 (tt.2.2.2.2)]) (fun tt u => RepI (i + j) u (.agg #[.slice (tt.1) (tt.2.1) (tt.2.2.1), .bool (tt.2.2.2.1), .int .i64 (tt.2.2.2.2)]) ((fun a b => ((fun a b => a * b) a.1 b.1, mulO a.2 b.2)) x2 y2)) (fun _ => []) rfl rfl rfl rfl (fun y u u' h hu => ringI.stable _ _ _ _ _ h hu) (fun _ => List.nodup_nil) (fun w => by go_simp) (fun w hu hd => (O_half_mul2 i j hij (sz + 1) (sz + 1 + 1) ka ga na ca la ma kb gb nb cb lb mb w (hu.at d1 (by simp)) (hu.at d2 (by simp)) (ringI.stable _ _ _ _ _ ha2 hu) (ringI.stable _ _ _ _ _ hb2 hu)).mono fun e w' ⟨gr, nr, cr, lr, mr, h1, h2, h3⟩ => ⟨(gr, nr, cr, lr, mr), h1, h2, h3, fun b hb => by cases hb⟩) ?_
  rintro ⟨gr, nr, cr, lr, mr⟩
  simp only [Act.put, List.setIfInBounds_toArray, List.set_cons_zero, List.set_cons_succ]
  refine seg_plain rfl rfl rfl rfl rfl ?_
  intro K' hK'
  go_big_quiet_op
  go_big_quiet_on
  intro w9 hg
  have hv := hg.up
  have hrB := hg.hold.1
  have hrA := hg.hold.2.1
  simp only at hrA hrB
  clear hg i0 i1
  simp only [List.drop_succ_cons, List.drop_zero]
  have c3 := hv.at d3 (by simp)
  have f20 := free_of c3 0
  have q20 := cell_of c3 0
  have f21 := free_of c3 1
  have q21 := cell_of c3 1
  have f22 := free_of c3 2
  have q22 := cell_of c3 2
  have f23 := free_of c3 3
  have q23 := cell_of c3 3
  simp only [List.getElem?_toArray, List.getElem?_cons_zero, List.getElem?_cons_succ] at q20 q21 q22 q23
  have hnu := not_uvO c3
  have hall := hup.trans_ext hv
  clear hv d0 d1 d2 d3
  have hsz2 := hsz
  clear ha hb ha2 hb2
  go_wp2
  have hst : Upto [sz + 1 + 1 + 1] w9 _ := ((((Upto.refl [sz + 1 + 1 + 1] w9).setCell (p := ⟨sz + 1 + 1 + 1, 0, none⟩) (Or.inl (by simp)) (.bool kr)).setCell (p := ⟨sz + 1 + 1 + 1, 1, none⟩) (Or.inl (by simp)) (.slice gr nr cr)).setCell (p := ⟨sz + 1 + 1 + 1, 2, none⟩) (Or.inl (by simp)) (.bool lr)).setCell (p := ⟨sz + 1 + 1 + 1, 3, none⟩) (Or.inl (by simp)) (.int .i64 mr)
  exact bodyPost_ret (v := .agg #[.bool kr, .slice gr nr cr, .bool lr, .int .i64 mr]) (by simp [results, Tryd.results45, go_sem, q20, q21, q22, q23]) rfl ⟨_, _, _, _, _, _, rfl, ((((hall).setCell (p := ⟨sz + 1 + 1 + 1, 0, none⟩) (Or.inr (by show _ ≤ sz + 1 + 1 + 1; omega)) (.bool kr)).setCell (p := ⟨sz + 1 + 1 + 1, 1, none⟩) (Or.inr (by show _ ≤ sz + 1 + 1 + 1; omega)) (.slice gr nr cr)).setCell (p := ⟨sz + 1 + 1 + 1, 2, none⟩) (Or.inr (by show _ ≤ sz + 1 + 1 + 1; omega)) (.bool lr)).setCell (p := ⟨sz + 1 + 1 + 1, 3, none⟩) (Or.inr (by show _ ≤ sz + 1 + 1 + 1; omega)) (.int .i64 mr), ringB.stab2 _ _ _ _ _ _ hrA hst hnu, ringI.stab2 _ _ _ _ _ _ hrB hst hnu⟩

set_option maxRecDepth 100000 in
set_option maxHeartbeats 1600000 in
theorem O_zero_calls (w : World) :
    Calls Tryd.prog 150 #[.agg #[.iface 23 (.agg #[]), .iface 70 (.agg #[.iface 42 (.agg #[]), .iface 29 (.agg #[])])]] w fun e w' => ∃ k g n c l m, e = .returned (.agg #[.bool k, .slice g n c, .bool l, .int .i64 m]) ∧ Upto [] w w' ∧ RepB 1 w' (.bool k) false ∧ RepI 1 w' (.agg #[.slice g n c, .bool l, .int .i64 m]) (0, none) := by
  obtain ⟨W, hW⟩ : ∃ W, W = ((w.alloc (.cells #[.iface 23 (.agg #[]), .iface 70 (.agg #[.iface 42 (.agg #[]), .iface 29 (.agg #[])])] 76)).alloc (.cells #[.bool false, .slice none 0 0, .bool false, .int .i64 0] 80)) := ⟨_, rfl⟩
  have hup : Upto [] w W := by rw [hW]; exact ((Upto.refl [] w).alloc _).alloc _
  have d0 := alloc_old (new_at w (.cells #[.iface 23 (.agg #[]), .iface 70 (.agg #[.iface 42 (.agg #[]), .iface 29 (.agg #[])])] 76)) (.cells #[.bool false, .slice none 0 0, .bool false, .int .i64 0] 80)
  rw [← hW] at d0
  try simp only [World.size_alloc] at d0
  have d1 := new_at (w.alloc (.cells #[.iface 23 (.agg #[]), .iface 70 (.agg #[.iface 42 (.agg #[]), .iface 29 (.agg #[])])] 76)) (.cells #[.bool false, .slice none 0 0, .bool false, .int .i64 0] 80)
  rw [← hW] at d1
  try simp only [World.size_alloc] at d1
  go_enter Tryd.func150, Tryd.ntmps150
  go_wp2_with fail
  simp only [← hW]
  generalize hsz : w.heap.size = sz at *
  clear hW
  have i0 : ∀ u : Ext W, u.w.cell? ⟨sz, 0, none⟩ = some (.iface 23 (.agg #[])) := fun u => u.cell (cell_of d0 0)
  have i1 : ∀ u : Ext W, u.w.cell? ⟨sz, 1, none⟩ = some (.iface 70 (.agg #[.iface 42 (.agg #[]), .iface 29 (.agg #[])])) := fun u => u.cell (cell_of d0 1)
  refine wp_region_seg_at [3, 7] [] [0, 1, 2, 3, 4, 5, 6, 7, 8] [9] 9 (by kernel_rfl) (by kernel_rfl) (by kernel_rfl) ?_
  refine seg_plain rfl rfl rfl rfl rfl ?_
  intro K' hK'
  go_big_quiet_op
  go_big_quiet_on
  refine seg_plain rfl rfl rfl rfl rfl ?_
  intro K' hK'
  go_big_quiet_op
  go_big_quiet_on
  refine seg_plain rfl rfl rfl rfl rfl ?_
  intro K' hK'
  go_big_quiet_op
  go_big_quiet_on
  refine seg_callO (Y := Bool) (fun tt => .bool (tt)) (fun tt u => RepB 1 u (.bool (tt)) false) (fun _ => []) rfl rfl rfl rfl (fun y u u' h hu => ringB.stable _ _ _ _ _ h hu) (fun _ => List.nodup_nil) (fun w => by go_simp) (fun w hu hd => (O_half_Zero1 w).mono fun e w' ⟨kr, h1, h2, h3⟩ => ⟨kr, h1, h2, h3, fun b hb => by cases hb⟩) ?_
  intro kr
  simp only [Act.put, List.setIfInBounds_toArray, List.set_cons_zero, List.set_cons_succ]
  refine seg_plain rfl rfl rfl rfl rfl ?_
  intro K' hK'
  go_big_quiet_op
  go_big_quiet_on
  refine seg_plain rfl rfl rfl rfl rfl ?_
  intro K' hK'
  go_big_quiet_op
  go_big_quiet_on
  refine seg_plain rfl rfl rfl rfl rfl ?_
  intro K' hK'
  go_big_quiet_op
  go_big_quiet_on
  refine seg_callO (Y := Option Addr × Nat × Nat × Bool × Int) (fun tt => .agg #[.slice (tt.1) (tt.2.1) (tt.2.2.1), .bool (tt.2.2.2.1), .int .i64 (tt.2.2.2.2)]) (fun tt u => RepI 1 u (.agg #[.slice (tt.1) (tt.2.1) (tt.2.2.1), .bool (tt.2.2.2.1), .int .i64 (tt.2.2.2.2)]) (0, none)) (fun _ => []) rfl rfl rfl rfl (fun y u u' h hu => ringI.stable _ _ _ _ _ h hu) (fun _ => List.nodup_nil) (fun w => by go_simp) (fun w hu hd => (O_half_Zero2 w).mono fun e w' ⟨gr, nr, cr, lr, mr, h1, h2, h3⟩ => ⟨(gr, nr, cr, lr, mr), h1, h2, h3, fun b hb => by cases hb⟩) ?_
  rintro ⟨gr, nr, cr, lr, mr⟩
  simp only [Act.put, List.setIfInBounds_toArray, List.set_cons_zero, List.set_cons_succ]
  refine seg_plain rfl rfl rfl rfl rfl ?_
  intro K' hK'
  go_big_quiet_op
  go_big_quiet_on
  intro w9 hg
  have hv := hg.up
  have hrB := hg.hold.1
  have hrA := hg.hold.2.1
  simp only at hrA hrB
  clear hg i0 i1
  simp only [List.drop_succ_cons, List.drop_zero]
  have c3 := hv.at d1 (by simp)
  have f20 := free_of c3 0
  have q20 := cell_of c3 0
  have f21 := free_of c3 1
  have q21 := cell_of c3 1
  have f22 := free_of c3 2
  have q22 := cell_of c3 2
  have f23 := free_of c3 3
  have q23 := cell_of c3 3
  simp only [List.getElem?_toArray, List.getElem?_cons_zero, List.getElem?_cons_succ] at q20 q21 q22 q23
  have hnu := not_uvO c3
  have hall := hup.trans_ext hv
  clear hv d0 d1
  have hsz2 := hsz
  go_wp2
  have hst : Upto [sz + 1] w9 _ := ((((Upto.refl [sz + 1] w9).setCell (p := ⟨sz + 1, 0, none⟩) (Or.inl (by simp)) (.bool kr)).setCell (p := ⟨sz + 1, 1, none⟩) (Or.inl (by simp)) (.slice gr nr cr)).setCell (p := ⟨sz + 1, 2, none⟩) (Or.inl (by simp)) (.bool lr)).setCell (p := ⟨sz + 1, 3, none⟩) (Or.inl (by simp)) (.int .i64 mr)
  exact bodyPost_ret (v := .agg #[.bool kr, .slice gr nr cr, .bool lr, .int .i64 mr]) (by simp [results, Tryd.results150, go_sem, q20, q21, q22, q23]) rfl ⟨_, _, _, _, _, _, rfl, ((((hall).setCell (p := ⟨sz + 1, 0, none⟩) (Or.inr (by show _ ≤ sz + 1; omega)) (.bool kr)).setCell (p := ⟨sz + 1, 1, none⟩) (Or.inr (by show _ ≤ sz + 1; omega)) (.slice gr nr cr)).setCell (p := ⟨sz + 1, 2, none⟩) (Or.inr (by show _ ≤ sz + 1; omega)) (.bool lr)).setCell (p := ⟨sz + 1, 3, none⟩) (Or.inr (by show _ ≤ sz + 1; omega)) (.int .i64 mr), ringB.stab2 _ _ _ _ _ _ hrA hst hnu, ringI.stab2 _ _ _ _ _ _ hrB hst hnu⟩

set_option maxRecDepth 100000 in
set_option maxHeartbeats 1600000 in
theorem O_one_calls (w : World) :
    Calls Tryd.prog 149 #[.agg #[.iface 23 (.agg #[]), .iface 70 (.agg #[.iface 42 (.agg #[]), .iface 29 (.agg #[])])]] w fun e w' => ∃ k g n c l m, e = .returned (.agg #[.bool k, .slice g n c, .bool l, .int .i64 m]) ∧ Upto [] w w' ∧ RepB 1 w' (.bool k) true ∧ RepI 1 w' (.agg #[.slice g n c, .bool l, .int .i64 m]) (1, (some 0)) := by
  obtain ⟨W, hW⟩ : ∃ W, W = ((w.alloc (.cells #[.iface 23 (.agg #[]), .iface 70 (.agg #[.iface 42 (.agg #[]), .iface 29 (.agg #[])])] 76)).alloc (.cells #[.bool false, .slice none 0 0, .bool false, .int .i64 0] 80)) := ⟨_, rfl⟩
  have hup : Upto [] w W := by rw [hW]; exact ((Upto.refl [] w).alloc _).alloc _
  have d0 := alloc_old (new_at w (.cells #[.iface 23 (.agg #[]), .iface 70 (.agg #[.iface 42 (.agg #[]), .iface 29 (.agg #[])])] 76)) (.cells #[.bool false, .slice none 0 0, .bool false, .int .i64 0] 80)
  rw [← hW] at d0
  try simp only [World.size_alloc] at d0
  have d1 := new_at (w.alloc (.cells #[.iface 23 (.agg #[]), .iface 70 (.agg #[.iface 42 (.agg #[]), .iface 29 (.agg #[])])] 76)) (.cells #[.bool false, .slice none 0 0, .bool false, .int .i64 0] 80)
  rw [← hW] at d1
  try simp only [World.size_alloc] at d1
  go_enter Tryd.func149, Tryd.ntmps149
  go_wp2_with fail
  simp only [← hW]
  generalize hsz : w.heap.size = sz at *
  clear hW
  have i0 : ∀ u : Ext W, u.w.cell? ⟨sz, 0, none⟩ = some (.iface 23 (.agg #[])) := fun u => u.cell (cell_of d0 0)
  have i1 : ∀ u : Ext W, u.w.cell? ⟨sz, 1, none⟩ = some (.iface 70 (.agg #[.iface 42 (.agg #[]), .iface 29 (.agg #[])])) := fun u => u.cell (cell_of d0 1)
  refine wp_region_seg_at [3, 7] [] [0, 1, 2, 3, 4, 5, 6, 7, 8] [9] 9 (by kernel_rfl) (by kernel_rfl) (by kernel_rfl) ?_
  refine seg_plain rfl rfl rfl rfl rfl ?_
  intro K' hK'
  go_big_quiet_op
  go_big_quiet_on
  refine seg_plain rfl rfl rfl rfl rfl ?_
  intro K' hK'
  go_big_quiet_op
  go_big_quiet_on
  refine seg_plain rfl rfl rfl rfl rfl ?_
  intro K' hK'
  go_big_quiet_op
  go_big_quiet_on
  refine seg_callO (Y := Bool) (fun tt => .bool (tt)) (fun tt u => RepB 1 u (.bool (tt)) true) (fun _ => []) rfl rfl rfl rfl (fun y u u' h hu => ringB.stable _ _ _ _ _ h hu) (fun _ => List.nodup_nil) (fun w => by go_simp) (fun w hu hd => (O_half_One1 w).mono fun e w' ⟨kr, h1, h2, h3⟩ => ⟨kr, h1, h2, h3, fun b hb => by cases hb⟩) ?_
  intro kr
  simp only [Act.put, List.setIfInBounds_toArray, List.set_cons_zero, List.set_cons_succ]
  refine seg_plain rfl rfl rfl rfl rfl ?_
  intro K' hK'
  go_big_quiet_op
  go_big_quiet_on
  refine seg_plain rfl rfl rfl rfl rfl ?_
  intro K' hK'
  go_big_quiet_op
  go_big_quiet_on
  refine seg_plain rfl rfl rfl rfl rfl ?_
  intro K' hK'
  go_big_quiet_op
  go_big_quiet_on
  refine seg_callO (Y := Option Addr × Nat × Nat × Bool × Int) (fun tt => .agg #[.slice (tt.1) (tt.2.1) (tt.2.2.1), .bool (tt.2.2.2.1), .int .i64 (tt.2.2.2.2)]) (fun tt u => RepI 1 u (.agg #[.slice (tt.1) (tt.2.1) (tt.2.2.1), .bool (tt.2.2.2.1), .int .i64 (tt.2.2.2.2)]) (1, (some 0))) (fun _ => []) rfl rfl rfl rfl (fun y u u' h hu => ringI.stable _ _ _ _ _ h hu) (fun _ => List.nodup_nil) (fun w => by go_simp) (fun w hu hd => (O_half_One2 w).mono fun e w' ⟨gr, nr, cr, lr, mr, h1, h2, h3⟩ => ⟨(gr, nr, cr, lr, mr), h1, h2, h3, fun b hb => by cases hb⟩) ?_
  rintro ⟨gr, nr, cr, lr, mr⟩
  simp only [Act.put, List.setIfInBounds_toArray, List.set_cons_zero, List.set_cons_succ]
  refine seg_plain rfl rfl rfl rfl rfl ?_
  intro K' hK'
  go_big_quiet_op
  go_big_quiet_on
  intro w9 hg
  have hv := hg.up
  have hrB := hg.hold.1
  have hrA := hg.hold.2.1
  simp only at hrA hrB
  clear hg i0 i1
  simp only [List.drop_succ_cons, List.drop_zero]
  have c3 := hv.at d1 (by simp)
  have f20 := free_of c3 0
  have q20 := cell_of c3 0
  have f21 := free_of c3 1
  have q21 := cell_of c3 1
  have f22 := free_of c3 2
  have q22 := cell_of c3 2
  have f23 := free_of c3 3
  have q23 := cell_of c3 3
  simp only [List.getElem?_toArray, List.getElem?_cons_zero, List.getElem?_cons_succ] at q20 q21 q22 q23
  have hnu := not_uvO c3
  have hall := hup.trans_ext hv
  clear hv d0 d1
  have hsz2 := hsz
  go_wp2
  have hst : Upto [sz + 1] w9 _ := ((((Upto.refl [sz + 1] w9).setCell (p := ⟨sz + 1, 0, none⟩) (Or.inl (by simp)) (.bool kr)).setCell (p := ⟨sz + 1, 1, none⟩) (Or.inl (by simp)) (.slice gr nr cr)).setCell (p := ⟨sz + 1, 2, none⟩) (Or.inl (by simp)) (.bool lr)).setCell (p := ⟨sz + 1, 3, none⟩) (Or.inl (by simp)) (.int .i64 mr)
  exact bodyPost_ret (v := .agg #[.bool kr, .slice gr nr cr, .bool lr, .int .i64 mr]) (by simp [results, Tryd.results149, go_sem, q20, q21, q22, q23]) rfl ⟨_, _, _, _, _, _, rfl, ((((hall).setCell (p := ⟨sz + 1, 0, none⟩) (Or.inr (by show _ ≤ sz + 1; omega)) (.bool kr)).setCell (p := ⟨sz + 1, 1, none⟩) (Or.inr (by show _ ≤ sz + 1; omega)) (.slice gr nr cr)).setCell (p := ⟨sz + 1, 2, none⟩) (Or.inr (by show _ ≤ sz + 1; omega)) (.bool lr)).setCell (p := ⟨sz + 1, 3, none⟩) (Or.inr (by show _ ≤ sz + 1; omega)) (.int .i64 mr), ringB.stab2 _ _ _ _ _ _ hrA hst hnu, ringI.stab2 _ _ _ _ _ _ hrB hst hnu⟩

set_option maxRecDepth 100000 in
set_option maxHeartbeats 1600000 in
theorem O_same_calls (i j : Nat) (hij : i + j ≤ 20) (ka : Bool) (ga : Option Addr) (na : Nat) (ca : Nat) (la : Bool) (ma : Int) (kb : Bool) (gb : Option Addr) (nb : Nat) (cb : Nat) (lb : Bool) (mb : Int) {x y : Bool} {x2 y2 : (Nat × (Option Int))} (dA dB : Bool) (hA : dA = true ↔ x = y) (hB : dB = true ↔ x2 = y2) (w : World)
    (ha : RepB i w (.bool ka) x) (hb : RepB j w (.bool kb) y) (ha2 : RepI i w (.agg #[.slice ga na ca, .bool la, .int .i64 ma]) x2) (hb2 : RepI j w (.agg #[.slice gb nb cb, .bool lb, .int .i64 mb]) y2) :
    Calls Tryd.prog 48 #[.agg #[.iface 23 (.agg #[]), .iface 70 (.agg #[.iface 42 (.agg #[]), .iface 29 (.agg #[])])], .agg #[.bool ka, .slice ga na ca, .bool la, .int .i64 ma], .agg #[.bool kb, .slice gb nb cb, .bool lb, .int .i64 mb]] w fun e w' => e = .returned (.bool (dA && dB)) ∧ Upto [] w w' := by
  have hup : Upto [] w (((w.alloc (.cells #[.iface 23 (.agg #[]), .iface 70 (.agg #[.iface 42 (.agg #[]), .iface 29 (.agg #[])])] 76)).alloc (.cells #[.bool ka, .slice ga na ca, .bool la, .int .i64 ma] 80)).alloc (.cells #[.bool kb, .slice gb nb cb, .bool lb, .int .i64 mb] 80)) := (((Upto.refl [] w).alloc _).alloc _).alloc _
  have d0 := alloc_old (alloc_old (new_at w (.cells #[.iface 23 (.agg #[]), .iface 70 (.agg #[.iface 42 (.agg #[]), .iface 29 (.agg #[])])] 76)) (.cells #[.bool ka, .slice ga na ca, .bool la, .int .i64 ma] 80)) (.cells #[.bool kb, .slice gb nb cb, .bool lb, .int .i64 mb] 80)
  try simp only [World.size_alloc] at d0
  have d1 := alloc_old (new_at (w.alloc (.cells #[.iface 23 (.agg #[]), .iface 70 (.agg #[.iface 42 (.agg #[]), .iface 29 (.agg #[])])] 76)) (.cells #[.bool ka, .slice ga na ca, .bool la, .int .i64 ma] 80)) (.cells #[.bool kb, .slice gb nb cb, .bool lb, .int .i64 mb] 80)
  try simp only [World.size_alloc] at d1
  have d2 := new_at ((w.alloc (.cells #[.iface 23 (.agg #[]), .iface 70 (.agg #[.iface 42 (.agg #[]), .iface 29 (.agg #[])])] 76)).alloc (.cells #[.bool ka, .slice ga na ca, .bool la, .int .i64 ma] 80)) (.cells #[.bool kb, .slice gb nb cb, .bool lb, .int .i64 mb] 80)
  try simp only [World.size_alloc] at d2
  have H := Lib.hid (ringB.hd i j _ _ _ _ _ dA hij (ringB.stable _ _ _ _ _ ha hup) (ringB.stable _ _ _ _ _ hb hup) hA)
  have H2 := Lib.hid (fun u (hu : Upto [] w u) => ringI.hd i j u _ _ _ _ dB hij (ringI.stable _ _ _ _ _ ha2 hu) (ringI.stable _ _ _ _ _ hb2 hu) hB)
  clear ha hb ha2 hb2 hA hB
  have mSB : ∀ w, (method 292 23 (.agg #[]) "Same").run Tryd.prog w = .ok (15, .agg #[]) w := fun _ => by kernel_rfl
  have qB : ∀ w, (binOp .eql 72 (.iface 23 (.agg #[])) .nilIface).run Tryd.prog w = .ok (.bool false) w := fun _ => by kernel_rfl
  have mSI : ∀ w, (method 292 70 (.agg #[.iface 42 (.agg #[]), .iface 29 (.agg #[])]) "Same").run Tryd.prog w = .ok (143, .agg #[.iface 42 (.agg #[]), .iface 29 (.agg #[])]) w := fun _ => by kernel_rfl
  have qI : ∀ w, (binOp .eql 74 (.iface 70 (.agg #[.iface 42 (.agg #[]), .iface 29 (.agg #[])])) .nilIface).run Tryd.prog w = .ok (.bool false) w := fun _ => by kernel_rfl
  go_enter Tryd.func48, Tryd.ntmps48
  go_wp2_with fail
  refine H.out.mono ?_
  rintro e w1 ⟨rfl, hv⟩
  have hall := hup.trans_ext hv
  replace d0 := hv.at d0 (by simp)
  replace d1 := hv.at d1 (by simp)
  replace d2 := hv.at d2 (by simp)
  have e0 := cell_of d0 0
  have e1 := cell_of d0 1
  have e2 := cell_of d1 0
  have e3 := cell_of d1 1
  have e4 := cell_of d1 2
  have e5 := cell_of d1 3
  have e6 := cell_of d2 0
  have e7 := cell_of d2 1
  have e8 := cell_of d2 2
  have e9 := cell_of d2 3
  simp only [List.getElem?_toArray, List.getElem?_cons_zero, List.getElem?_cons_succ] at e0 e1 e2 e3 e4 e5 e6 e7 e8 e9
  clear d0 d1 d2 hv hup H
  cases dA
  · go_wp2
    go_ret
    exact ⟨rfl, hall⟩
  · go_wp2_with fail
    refine (H2.out _ hall).mono ?_
    rintro e w2 ⟨rfl, hv⟩
    go_wp2
    go_ret
    exact ⟨by simp, hall.trans_ext hv⟩

def RepO (i : Nat) (w : World) (v : Value) (x : (Bool × (Nat × (Option Int)))) : Prop := ∃ (k : Bool) (g : Option Addr) (n : Nat) (c : Nat) (l : Bool) (m : Int), v = .agg #[.bool k, .slice g n c, .bool l, .int .i64 m] ∧ RepB i w (.bool k) x.1 ∧ RepI i w (.agg #[.slice g n c, .bool l, .int .i64 m]) x.2
theorem repO_shape (i : Nat) (w : World) (v : Value) (x : (Bool × (Nat × (Option Int)))) (h : RepO i w v x) : ∃ k g n c l m, v = .agg #[.bool k, .slice g n c, .bool l, .int .i64 m] := by
  obtain ⟨k, g, n, c, l, m, h, _⟩ := h
  exact ⟨_, _, _, _, _, _, h⟩
theorem ringO : Ring (Bool × (Nat × (Option Int))) (.agg #[.iface 23 (.agg #[]), .iface 70 (.agg #[.iface 42 (.agg #[]), .iface 29 (.agg #[])])]) 150 149 44 45 48 RepO (false, (0, none)) (true, (1, (some 0))) (fun a b => ((fun a b => a || b) a.1 b.1, (fun a b => ((fun a b => a + b) a.1 b.1, minO a.2 b.2)) a.2 b.2)) (fun a b => ((fun a b => a && b) a.1 b.1, (fun a b => ((fun a b => a * b) a.1 b.1, mulO a.2 b.2)) a.2 b.2)) where
  stable := fun i v x w w' ⟨ka, ga, na, ca, la, ma, h1, h2, h3⟩ hu => ⟨_, _, _, _, _, _, h1, ringB.stable _ _ _ _ _ h2 hu, ringI.stable _ _ _ _ _ h3 hu⟩
  stab2 := fun i v x w w' B ⟨ka, ga, na, ca, la, ma, h1, h2, h3⟩ hu hn => ⟨_, _, _, _, _, _, h1, ringB.stab2 _ _ _ _ _ _ h2 hu hn, ringI.stab2 _ _ _ _ _ _ h3 hu hn⟩
  hz := fun w => (O_zero_calls w).mono fun e w' ⟨kr, gr, nr, cr, lr, mr, m1, m2, m3, m4⟩ => ⟨_, m1, m2, _, _, _, _, _, _, rfl, m3, m4⟩
  ho := fun w => (O_one_calls w).mono fun e w' ⟨kr, gr, nr, cr, lr, mr, m1, m2, m3, m4⟩ => ⟨_, m1, m2, _, _, _, _, _, _, rfl, m3, m4⟩
  ha := fun i j w a b x y hij ⟨ka, ga, na, ca, la, ma, h1, h2, h3⟩ ⟨kb, gb, nb, cb, lb, mb, k1, k2, k3⟩ => by
    obtain ⟨x, x2⟩ := x
    obtain ⟨y, y2⟩ := y
    subst h1 k1
    exact (O_add_calls i j hij ka ga na ca la ma kb gb nb cb lb mb w h2 k2 h3 k3).mono fun e w' ⟨kr, gr, nr, cr, lr, mr, m1, m2, m3, m4⟩ => ⟨_, m1, m2, _, _, _, _, _, _, rfl, m3, m4⟩
  hm := fun i j w a b x y hij ⟨ka, ga, na, ca, la, ma, h1, h2, h3⟩ ⟨kb, gb, nb, cb, lb, mb, k1, k2, k3⟩ => by
    obtain ⟨x, x2⟩ := x
    obtain ⟨y, y2⟩ := y
    subst h1 k1
    exact (O_mul_calls i j hij ka ga na ca la ma kb gb nb cb lb mb w h2 k2 h3 k3).mono fun e w' ⟨kr, gr, nr, cr, lr, mr, m1, m2, m3, m4⟩ => ⟨_, m1, m2, _, _, _, _, _, _, rfl, m3, m4⟩
  hs := fun i j w a b x y hij ⟨ka, ga, na, ca, la, ma, h1, h2, h3⟩ ⟨kb, gb, nb, cb, lb, mb, k1, k2, k3⟩ he => by
    obtain ⟨x, x2⟩ := x
    obtain ⟨y, y2⟩ := y
    subst h1 k1
    exact (O_same_calls i j hij ka ga na ca la ma kb gb nb cb lb mb true true (by simpa using (Prod.mk.inj he).1) (by simpa using (Prod.mk.inj he).2) w h2 k2 h3 k3).mono fun e w' ⟨m1, m2⟩ => ⟨m1, m2⟩
  hd := fun i j w a b x y d hij ⟨ka, ga, na, ca, la, ma, h1, h2, h3⟩ ⟨kb, gb, nb, cb, lb, mb, k1, k2, k3⟩ he => by
    obtain ⟨x, x2⟩ := x
    obtain ⟨y, y2⟩ := y
    subst h1 k1
    exact (O_same_calls i j hij ka ga na ca la ma kb gb nb cb lb mb (@decide (x = y) (Classical.propDecidable _)) (@decide (x2 = y2) (Classical.propDecidable _)) (by simp) (by simp) w h2 k2 h3 k3).mono fun e w' ⟨m1, m2⟩ => ⟨by rw [m1]; congr 2; rw [Bool.eq_iff_iff, he]; simp, m2⟩
  addc := fun x y => Prod.ext (ringB.addc x.1 y.1) (ringI.addc x.2 y.2)
  adda := fun x y t => Prod.ext (ringB.adda x.1 y.1 t.1) (ringI.adda x.2 y.2 t.2)
  addz := fun x => Prod.ext (ringB.addz x.1) (ringI.addz x.2)
  mulc := fun x y => Prod.ext (ringB.mulc x.1 y.1) (ringI.mulc x.2 y.2)
  mula := fun x y t => Prod.ext (ringB.mula x.1 y.1 t.1) (ringI.mula x.2 y.2 t.2)
  mulo := fun x => Prod.ext (ringB.mulo x.1) (ringI.mulo x.2)
  mulz := fun x => Prod.ext (ringB.mulz x.1) (ringI.mulz x.2)
  dist := fun x y t => Prod.ext (ringB.dist x.1 y.1 t.1) (ringI.dist x.2 y.2 t.2)

end Go.Proofs.YtifellalnojomaaDoor
