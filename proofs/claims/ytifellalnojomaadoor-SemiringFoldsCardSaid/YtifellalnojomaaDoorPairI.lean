/- The methods of a pair of semirings. -/
import Derived.Test.YtifellalnojomaaDoorRingI
import Derived.Test.YtifellalnojomaaDoorKnown
import Derived.Deep.DeepCutAuto
import Derived.Deep.CutBlock
namespace Go.Proofs.YtifellalnojomaaDoor
open Go.RowKit Go.PL Go.Maps

theorem not_uvN {w : World} {B : Nat} (h : w.heap[B]? = some (.cells #[.slice none 0 0] 45)) (k n : Nat) : w.cell? ⟨B, k, none⟩ ≠ some (uv n) := by
  rw [cell_of h k]
  match k with
  | 0 => simp [uv]
  | k + 1 => simp

theorem not_uvM {w : World} {B : Nat} (h : w.heap[B]? = some (.cells #[.bool false, .int .i64 0] 32)) (k n : Nat) : w.cell? ⟨B, k, none⟩ ≠ some (uv n) := by
  rw [cell_of h k]
  match k with
  | 0 => simp [uv]
  | 1 => simp [uv]
  | k + 2 => simp

theorem not_uvI {w : World} {B : Nat} (h : w.heap[B]? = some (.cells #[.slice none 0 0, .bool false, .int .i64 0] 78)) (k n : Nat) : w.cell? ⟨B, k, none⟩ ≠ some (uv n) := by
  rw [cell_of h k]
  match k with
  | 0 => simp [uv]
  | 1 => simp [uv]
  | 2 => simp [uv]
  | k + 3 => simp

set_option maxRecDepth 100000 in
set_option maxHeartbeats 1600000 in
theorem I_add1 (i j : Nat) (hij : i + j ≤ 20) (pa pb : Nat) (ga : Option Addr) (na : Nat) (ca : Nat) (la : Bool) (ma : Int) (gb : Option Addr) (nb : Nat) (cb : Nat) (lb : Bool) (mb : Int) {x y : Nat} (w : World)
    (ba : w.heap[pa]? = some (.cells #[.slice ga na ca, .bool la, .int .i64 ma] 78)) (bb : w.heap[pb]? = some (.cells #[.slice gb nb cb, .bool lb, .int .i64 mb] 78)) (ha : RepN i w (.agg #[.slice ga na ca]) x) (hb : RepN j w (.agg #[.slice gb nb cb]) y) :
    Calls Tryd.prog 145 #[.iface 42 (.agg #[]), .pointer (some ⟨pa, 0, none⟩), .pointer (some ⟨pb, 0, none⟩)] w fun e w' => ∃ g n c, e = .returned (.agg #[.slice g n c]) ∧ Upto [] w w' ∧ RepN (i + j) w' (.agg #[.slice g n c]) ((fun a b => a + b) x y) := by
  have H := Lib.hid (fun u (hu : Upto [] w u) => ringN.ha i j u _ _ x y hij (ringN.stable _ _ _ _ _ ha hu) (ringN.stable _ _ _ _ _ hb hu))
  have a0 := cell_of ba 0
  have b10 := cell_of bb 0
  simp only [List.getElem?_toArray, List.getElem?_cons_zero, List.getElem?_cons_succ] at a0 b10
  have la := lt_of_heap ba
  have lb := lt_of_heap bb
  have b3 := new_at w (.cells #[.slice none 0 0] 45)
  have hup : Upto [] w (w.alloc (.cells #[.slice none 0 0] 45)) := (Upto.refl [] w).alloc _
  clear ba bb ha hb
  have mAN : ∀ w, (method 292 42 (.agg #[]) "Add").run Tryd.prog w = .ok (34, .agg #[]) w := fun _ => by kernel_rfl
  go_enter Tryd.func145, Tryd.ntmps145
  go_wp2_with fail
  refine (H.out _ hup).mono ?_
  rintro e w1 ⟨v, rfl, hu1, hr⟩
  obtain ⟨gr, nr, cr, rfl⟩ := repN_shape _ _ _ _ hr
  clear H
  have c3 := hu1.at b3 (by simp)
  have f20 := free_of c3 0
  have q20 := cell_of c3 0
  simp only [List.getElem?_toArray, List.getElem?_cons_zero, List.getElem?_cons_succ] at q20
  have hnu := not_uvN c3
  have hall := hup.trans_ext hu1
  go_wp2
  exact bodyPost_ret (v := .agg #[.slice gr nr cr]) (by simp [results, Tryd.results145, go_sem, q20]) rfl ⟨_, _, _, rfl, (hall).setCell (p := ⟨w.heap.size, 0, none⟩) (Or.inr (Nat.le_refl _)) (.slice gr nr cr), ringN.stab2 _ _ _ _ _ _ hr ((Upto.refl [w.heap.size] w1).setCell (p := ⟨w.heap.size, 0, none⟩) (Or.inl (by simp)) (.slice gr nr cr)) hnu⟩

set_option maxRecDepth 100000 in
set_option maxHeartbeats 1600000 in
theorem I_half_add1 (i j : Nat) (hij : i + j ≤ 20) (pa pb : Nat) (ga : Option Addr) (na : Nat) (ca : Nat) (la : Bool) (ma : Int) (gb : Option Addr) (nb : Nat) (cb : Nat) (lb : Bool) (mb : Int) {x y : Nat} (w : World)
    (ba : w.heap[pa]? = some (.cells #[.slice ga na ca, .bool la, .int .i64 ma] 78)) (bb : w.heap[pb]? = some (.cells #[.slice gb nb cb, .bool lb, .int .i64 mb] 78)) (ha : RepN i w (.agg #[.slice ga na ca]) x) (hb : RepN j w (.agg #[.slice gb nb cb]) y) :
    Calls Tryd.prog 79 #[.iface 42 (.agg #[]), .func (.func 145) #[] #[.pointer (some ⟨pa, 0, none⟩), .pointer (some ⟨pb, 0, none⟩)]] w fun e w' => ∃ g n c, e = .returned (.agg #[.slice g n c]) ∧ Upto [] w w' ∧ RepN (i + j) w' (.agg #[.slice g n c]) ((fun a b => a + b) x y) := by
  have H := Lib.hid (fun u (hu : Upto [] w u) => I_add1 i j hij pa pb ga na ca la ma gb nb cb lb mb u (hu.at ba (by simp)) (hu.at bb (by simp)) (ringN.stable _ _ _ _ _ ha hu) (ringN.stable _ _ _ _ _ hb hu))
  have b3 := new_at w (.cells #[.slice none 0 0] 45)
  have hup : Upto [] w (w.alloc (.cells #[.slice none 0 0] 45)) := (Upto.refl [] w).alloc _
  clear ba bb ha hb
  have qn : ∀ w, (binOp .eql 66 (.iface 42 (.agg #[])) .nilIface).run Tryd.prog w = .ok (.bool false) w := fun _ => by kernel_rfl
  go_enter Tryd.func79, Tryd.ntmps79
  go_wp2_with fail
  refine (H.out _ hup).mono ?_
  rintro e w1 ⟨gr, nr, cr, rfl, hu1, hr⟩
  clear H
  have c3 := hu1.at b3 (by simp)
  have f20 := free_of c3 0
  have q20 := cell_of c3 0
  simp only [List.getElem?_toArray, List.getElem?_cons_zero, List.getElem?_cons_succ] at q20
  have hnu := not_uvN c3
  have hall := hup.trans_ext hu1
  go_wp2
  exact bodyPost_ret (v := .agg #[.slice gr nr cr]) (by simp [results, Tryd.results79, go_sem, q20]) rfl ⟨_, _, _, rfl, (hall).setCell (p := ⟨w.heap.size, 0, none⟩) (Or.inr (Nat.le_refl _)) (.slice gr nr cr), ringN.stab2 _ _ _ _ _ _ hr ((Upto.refl [w.heap.size] w1).setCell (p := ⟨w.heap.size, 0, none⟩) (Or.inl (by simp)) (.slice gr nr cr)) hnu⟩

set_option maxRecDepth 100000 in
set_option maxHeartbeats 1600000 in
theorem I_add2 (i j : Nat) (hij : i + j ≤ 20) (pa pb : Nat) (ga : Option Addr) (na : Nat) (ca : Nat) (la : Bool) (ma : Int) (gb : Option Addr) (nb : Nat) (cb : Nat) (lb : Bool) (mb : Int) {x y : (Option Int)} (w : World)
    (ba : w.heap[pa]? = some (.cells #[.slice ga na ca, .bool la, .int .i64 ma] 78)) (bb : w.heap[pb]? = some (.cells #[.slice gb nb cb, .bool lb, .int .i64 mb] 78)) (ha : RepC i w (.agg #[.bool la, .int .i64 ma]) x) (hb : RepC j w (.agg #[.bool lb, .int .i64 mb]) y) :
    Calls Tryd.prog 146 #[.iface 29 (.agg #[]), .pointer (some ⟨pa, 0, none⟩), .pointer (some ⟨pb, 0, none⟩)] w fun e w' => ∃ l m, e = .returned (.agg #[.bool l, .int .i64 m]) ∧ Upto [] w w' ∧ RepC (i + j) w' (.agg #[.bool l, .int .i64 m]) (minO x y) := by
  have H := Lib.hid (fun u (hu : Upto [] w u) => ringMi.ha i j u _ _ x y hij (ringMi.stable _ _ _ _ _ ha hu) (ringMi.stable _ _ _ _ _ hb hu))
  have a0 := cell_of ba 1
  have b10 := cell_of bb 1
  have a1 := cell_of ba 2
  have b11 := cell_of bb 2
  simp only [List.getElem?_toArray, List.getElem?_cons_zero, List.getElem?_cons_succ] at a0 b10 a1 b11
  have la := lt_of_heap ba
  have lb := lt_of_heap bb
  have b3 := new_at w (.cells #[.bool false, .int .i64 0] 32)
  have hup : Upto [] w (w.alloc (.cells #[.bool false, .int .i64 0] 32)) := (Upto.refl [] w).alloc _
  clear ba bb ha hb
  have mAM : ∀ w, (method 292 29 (.agg #[]) "Add").run Tryd.prog w = .ok (21, .agg #[]) w := fun _ => by kernel_rfl
  go_enter Tryd.func146, Tryd.ntmps146
  go_wp2_with fail
  refine (H.out _ hup).mono ?_
  rintro e w1 ⟨v, rfl, hu1, hr⟩
  obtain ⟨lr, mr, rfl⟩ := repC_shape _ _ _ _ hr
  clear H
  have c3 := hu1.at b3 (by simp)
  have f20 := free_of c3 0
  have q20 := cell_of c3 0
  have f21 := free_of c3 1
  have q21 := cell_of c3 1
  simp only [List.getElem?_toArray, List.getElem?_cons_zero, List.getElem?_cons_succ] at q20 q21
  have hnu := not_uvM c3
  have hall := hup.trans_ext hu1
  go_wp2
  exact bodyPost_ret (v := .agg #[.bool lr, .int .i64 mr]) (by simp [results, Tryd.results146, go_sem, q20, q21]) rfl ⟨_, _, rfl, ((hall).setCell (p := ⟨w.heap.size, 0, none⟩) (Or.inr (Nat.le_refl _)) (.bool lr)).setCell (p := ⟨w.heap.size, 1, none⟩) (Or.inr (Nat.le_refl _)) (.int .i64 mr), ringMi.stab2 _ _ _ _ _ _ hr (((Upto.refl [w.heap.size] w1).setCell (p := ⟨w.heap.size, 0, none⟩) (Or.inl (by simp)) (.bool lr)).setCell (p := ⟨w.heap.size, 1, none⟩) (Or.inl (by simp)) (.int .i64 mr)) hnu⟩

set_option maxRecDepth 100000 in
set_option maxHeartbeats 1600000 in
theorem I_half_add2 (i j : Nat) (hij : i + j ≤ 20) (pa pb : Nat) (ga : Option Addr) (na : Nat) (ca : Nat) (la : Bool) (ma : Int) (gb : Option Addr) (nb : Nat) (cb : Nat) (lb : Bool) (mb : Int) {x y : (Option Int)} (w : World)
    (ba : w.heap[pa]? = some (.cells #[.slice ga na ca, .bool la, .int .i64 ma] 78)) (bb : w.heap[pb]? = some (.cells #[.slice gb nb cb, .bool lb, .int .i64 mb] 78)) (ha : RepC i w (.agg #[.bool la, .int .i64 ma]) x) (hb : RepC j w (.agg #[.bool lb, .int .i64 mb]) y) :
    Calls Tryd.prog 82 #[.iface 29 (.agg #[]), .func (.func 146) #[] #[.pointer (some ⟨pa, 0, none⟩), .pointer (some ⟨pb, 0, none⟩)]] w fun e w' => ∃ l m, e = .returned (.agg #[.bool l, .int .i64 m]) ∧ Upto [] w w' ∧ RepC (i + j) w' (.agg #[.bool l, .int .i64 m]) (minO x y) := by
  have H := Lib.hid (fun u (hu : Upto [] w u) => I_add2 i j hij pa pb ga na ca la ma gb nb cb lb mb u (hu.at ba (by simp)) (hu.at bb (by simp)) (ringMi.stable _ _ _ _ _ ha hu) (ringMi.stable _ _ _ _ _ hb hu))
  have b3 := new_at w (.cells #[.bool false, .int .i64 0] 32)
  have hup : Upto [] w (w.alloc (.cells #[.bool false, .int .i64 0] 32)) := (Upto.refl [] w).alloc _
  clear ba bb ha hb
  have qn : ∀ w, (binOp .eql 68 (.iface 29 (.agg #[])) .nilIface).run Tryd.prog w = .ok (.bool false) w := fun _ => by kernel_rfl
  go_enter Tryd.func82, Tryd.ntmps82
  go_wp2_with fail
  refine (H.out _ hup).mono ?_
  rintro e w1 ⟨lr, mr, rfl, hu1, hr⟩
  clear H
  have c3 := hu1.at b3 (by simp)
  have f20 := free_of c3 0
  have q20 := cell_of c3 0
  have f21 := free_of c3 1
  have q21 := cell_of c3 1
  simp only [List.getElem?_toArray, List.getElem?_cons_zero, List.getElem?_cons_succ] at q20 q21
  have hnu := not_uvM c3
  have hall := hup.trans_ext hu1
  go_wp2
  exact bodyPost_ret (v := .agg #[.bool lr, .int .i64 mr]) (by simp [results, Tryd.results82, go_sem, q20, q21]) rfl ⟨_, _, rfl, ((hall).setCell (p := ⟨w.heap.size, 0, none⟩) (Or.inr (Nat.le_refl _)) (.bool lr)).setCell (p := ⟨w.heap.size, 1, none⟩) (Or.inr (Nat.le_refl _)) (.int .i64 mr), ringMi.stab2 _ _ _ _ _ _ hr (((Upto.refl [w.heap.size] w1).setCell (p := ⟨w.heap.size, 0, none⟩) (Or.inl (by simp)) (.bool lr)).setCell (p := ⟨w.heap.size, 1, none⟩) (Or.inl (by simp)) (.int .i64 mr)) hnu⟩

set_option maxRecDepth 100000 in
set_option maxHeartbeats 1600000 in
theorem I_mul1 (i j : Nat) (hij : i + j ≤ 20) (pa pb : Nat) (ga : Option Addr) (na : Nat) (ca : Nat) (la : Bool) (ma : Int) (gb : Option Addr) (nb : Nat) (cb : Nat) (lb : Bool) (mb : Int) {x y : Nat} (w : World)
    (ba : w.heap[pa]? = some (.cells #[.slice ga na ca, .bool la, .int .i64 ma] 78)) (bb : w.heap[pb]? = some (.cells #[.slice gb nb cb, .bool lb, .int .i64 mb] 78)) (ha : RepN i w (.agg #[.slice ga na ca]) x) (hb : RepN j w (.agg #[.slice gb nb cb]) y) :
    Calls Tryd.prog 147 #[.iface 42 (.agg #[]), .pointer (some ⟨pa, 0, none⟩), .pointer (some ⟨pb, 0, none⟩)] w fun e w' => ∃ g n c, e = .returned (.agg #[.slice g n c]) ∧ Upto [] w w' ∧ RepN (i + j) w' (.agg #[.slice g n c]) ((fun a b => a * b) x y) := by
  have H := Lib.hid (fun u (hu : Upto [] w u) => ringN.hm i j u _ _ x y hij (ringN.stable _ _ _ _ _ ha hu) (ringN.stable _ _ _ _ _ hb hu))
  have a0 := cell_of ba 0
  have b10 := cell_of bb 0
  simp only [List.getElem?_toArray, List.getElem?_cons_zero, List.getElem?_cons_succ] at a0 b10
  have la := lt_of_heap ba
  have lb := lt_of_heap bb
  have b3 := new_at w (.cells #[.slice none 0 0] 45)
  have hup : Upto [] w (w.alloc (.cells #[.slice none 0 0] 45)) := (Upto.refl [] w).alloc _
  clear ba bb ha hb
  have mMN : ∀ w, (method 292 42 (.agg #[]) "Mul").run Tryd.prog w = .ok (36, .agg #[]) w := fun _ => by kernel_rfl
  go_enter Tryd.func147, Tryd.ntmps147
  go_wp2_with fail
  refine (H.out _ hup).mono ?_
  rintro e w1 ⟨v, rfl, hu1, hr⟩
  obtain ⟨gr, nr, cr, rfl⟩ := repN_shape _ _ _ _ hr
  clear H
  have c3 := hu1.at b3 (by simp)
  have f20 := free_of c3 0
  have q20 := cell_of c3 0
  simp only [List.getElem?_toArray, List.getElem?_cons_zero, List.getElem?_cons_succ] at q20
  have hnu := not_uvN c3
  have hall := hup.trans_ext hu1
  go_wp2
  exact bodyPost_ret (v := .agg #[.slice gr nr cr]) (by simp [results, Tryd.results147, go_sem, q20]) rfl ⟨_, _, _, rfl, (hall).setCell (p := ⟨w.heap.size, 0, none⟩) (Or.inr (Nat.le_refl _)) (.slice gr nr cr), ringN.stab2 _ _ _ _ _ _ hr ((Upto.refl [w.heap.size] w1).setCell (p := ⟨w.heap.size, 0, none⟩) (Or.inl (by simp)) (.slice gr nr cr)) hnu⟩

set_option maxRecDepth 100000 in
set_option maxHeartbeats 1600000 in
theorem I_half_mul1 (i j : Nat) (hij : i + j ≤ 20) (pa pb : Nat) (ga : Option Addr) (na : Nat) (ca : Nat) (la : Bool) (ma : Int) (gb : Option Addr) (nb : Nat) (cb : Nat) (lb : Bool) (mb : Int) {x y : Nat} (w : World)
    (ba : w.heap[pa]? = some (.cells #[.slice ga na ca, .bool la, .int .i64 ma] 78)) (bb : w.heap[pb]? = some (.cells #[.slice gb nb cb, .bool lb, .int .i64 mb] 78)) (ha : RepN i w (.agg #[.slice ga na ca]) x) (hb : RepN j w (.agg #[.slice gb nb cb]) y) :
    Calls Tryd.prog 79 #[.iface 42 (.agg #[]), .func (.func 147) #[] #[.pointer (some ⟨pa, 0, none⟩), .pointer (some ⟨pb, 0, none⟩)]] w fun e w' => ∃ g n c, e = .returned (.agg #[.slice g n c]) ∧ Upto [] w w' ∧ RepN (i + j) w' (.agg #[.slice g n c]) ((fun a b => a * b) x y) := by
  have H := Lib.hid (fun u (hu : Upto [] w u) => I_mul1 i j hij pa pb ga na ca la ma gb nb cb lb mb u (hu.at ba (by simp)) (hu.at bb (by simp)) (ringN.stable _ _ _ _ _ ha hu) (ringN.stable _ _ _ _ _ hb hu))
  have b3 := new_at w (.cells #[.slice none 0 0] 45)
  have hup : Upto [] w (w.alloc (.cells #[.slice none 0 0] 45)) := (Upto.refl [] w).alloc _
  clear ba bb ha hb
  have qn : ∀ w, (binOp .eql 66 (.iface 42 (.agg #[])) .nilIface).run Tryd.prog w = .ok (.bool false) w := fun _ => by kernel_rfl
  go_enter Tryd.func79, Tryd.ntmps79
  go_wp2_with fail
  refine (H.out _ hup).mono ?_
  rintro e w1 ⟨gr, nr, cr, rfl, hu1, hr⟩
  clear H
  have c3 := hu1.at b3 (by simp)
  have f20 := free_of c3 0
  have q20 := cell_of c3 0
  simp only [List.getElem?_toArray, List.getElem?_cons_zero, List.getElem?_cons_succ] at q20
  have hnu := not_uvN c3
  have hall := hup.trans_ext hu1
  go_wp2
  exact bodyPost_ret (v := .agg #[.slice gr nr cr]) (by simp [results, Tryd.results79, go_sem, q20]) rfl ⟨_, _, _, rfl, (hall).setCell (p := ⟨w.heap.size, 0, none⟩) (Or.inr (Nat.le_refl _)) (.slice gr nr cr), ringN.stab2 _ _ _ _ _ _ hr ((Upto.refl [w.heap.size] w1).setCell (p := ⟨w.heap.size, 0, none⟩) (Or.inl (by simp)) (.slice gr nr cr)) hnu⟩

set_option maxRecDepth 100000 in
set_option maxHeartbeats 1600000 in
theorem I_mul2 (i j : Nat) (hij : i + j ≤ 20) (pa pb : Nat) (ga : Option Addr) (na : Nat) (ca : Nat) (la : Bool) (ma : Int) (gb : Option Addr) (nb : Nat) (cb : Nat) (lb : Bool) (mb : Int) {x y : (Option Int)} (w : World)
    (ba : w.heap[pa]? = some (.cells #[.slice ga na ca, .bool la, .int .i64 ma] 78)) (bb : w.heap[pb]? = some (.cells #[.slice gb nb cb, .bool lb, .int .i64 mb] 78)) (ha : RepC i w (.agg #[.bool la, .int .i64 ma]) x) (hb : RepC j w (.agg #[.bool lb, .int .i64 mb]) y) :
    Calls Tryd.prog 148 #[.iface 29 (.agg #[]), .pointer (some ⟨pa, 0, none⟩), .pointer (some ⟨pb, 0, none⟩)] w fun e w' => ∃ l m, e = .returned (.agg #[.bool l, .int .i64 m]) ∧ Upto [] w w' ∧ RepC (i + j) w' (.agg #[.bool l, .int .i64 m]) (mulO x y) := by
  have H := Lib.hid (fun u (hu : Upto [] w u) => ringMi.hm i j u _ _ x y hij (ringMi.stable _ _ _ _ _ ha hu) (ringMi.stable _ _ _ _ _ hb hu))
  have a0 := cell_of ba 1
  have b10 := cell_of bb 1
  have a1 := cell_of ba 2
  have b11 := cell_of bb 2
  simp only [List.getElem?_toArray, List.getElem?_cons_zero, List.getElem?_cons_succ] at a0 b10 a1 b11
  have la := lt_of_heap ba
  have lb := lt_of_heap bb
  have b3 := new_at w (.cells #[.bool false, .int .i64 0] 32)
  have hup : Upto [] w (w.alloc (.cells #[.bool false, .int .i64 0] 32)) := (Upto.refl [] w).alloc _
  clear ba bb ha hb
  have mMM : ∀ w, (method 292 29 (.agg #[]) "Mul").run Tryd.prog w = .ok (24, .agg #[]) w := fun _ => by kernel_rfl
  go_enter Tryd.func148, Tryd.ntmps148
  go_wp2_with fail
  refine (H.out _ hup).mono ?_
  rintro e w1 ⟨v, rfl, hu1, hr⟩
  obtain ⟨lr, mr, rfl⟩ := repC_shape _ _ _ _ hr
  clear H
  have c3 := hu1.at b3 (by simp)
  have f20 := free_of c3 0
  have q20 := cell_of c3 0
  have f21 := free_of c3 1
  have q21 := cell_of c3 1
  simp only [List.getElem?_toArray, List.getElem?_cons_zero, List.getElem?_cons_succ] at q20 q21
  have hnu := not_uvM c3
  have hall := hup.trans_ext hu1
  go_wp2
  exact bodyPost_ret (v := .agg #[.bool lr, .int .i64 mr]) (by simp [results, Tryd.results148, go_sem, q20, q21]) rfl ⟨_, _, rfl, ((hall).setCell (p := ⟨w.heap.size, 0, none⟩) (Or.inr (Nat.le_refl _)) (.bool lr)).setCell (p := ⟨w.heap.size, 1, none⟩) (Or.inr (Nat.le_refl _)) (.int .i64 mr), ringMi.stab2 _ _ _ _ _ _ hr (((Upto.refl [w.heap.size] w1).setCell (p := ⟨w.heap.size, 0, none⟩) (Or.inl (by simp)) (.bool lr)).setCell (p := ⟨w.heap.size, 1, none⟩) (Or.inl (by simp)) (.int .i64 mr)) hnu⟩

set_option maxRecDepth 100000 in
set_option maxHeartbeats 1600000 in
theorem I_half_mul2 (i j : Nat) (hij : i + j ≤ 20) (pa pb : Nat) (ga : Option Addr) (na : Nat) (ca : Nat) (la : Bool) (ma : Int) (gb : Option Addr) (nb : Nat) (cb : Nat) (lb : Bool) (mb : Int) {x y : (Option Int)} (w : World)
    (ba : w.heap[pa]? = some (.cells #[.slice ga na ca, .bool la, .int .i64 ma] 78)) (bb : w.heap[pb]? = some (.cells #[.slice gb nb cb, .bool lb, .int .i64 mb] 78)) (ha : RepC i w (.agg #[.bool la, .int .i64 ma]) x) (hb : RepC j w (.agg #[.bool lb, .int .i64 mb]) y) :
    Calls Tryd.prog 82 #[.iface 29 (.agg #[]), .func (.func 148) #[] #[.pointer (some ⟨pa, 0, none⟩), .pointer (some ⟨pb, 0, none⟩)]] w fun e w' => ∃ l m, e = .returned (.agg #[.bool l, .int .i64 m]) ∧ Upto [] w w' ∧ RepC (i + j) w' (.agg #[.bool l, .int .i64 m]) (mulO x y) := by
  have H := Lib.hid (fun u (hu : Upto [] w u) => I_mul2 i j hij pa pb ga na ca la ma gb nb cb lb mb u (hu.at ba (by simp)) (hu.at bb (by simp)) (ringMi.stable _ _ _ _ _ ha hu) (ringMi.stable _ _ _ _ _ hb hu))
  have b3 := new_at w (.cells #[.bool false, .int .i64 0] 32)
  have hup : Upto [] w (w.alloc (.cells #[.bool false, .int .i64 0] 32)) := (Upto.refl [] w).alloc _
  clear ba bb ha hb
  have qn : ∀ w, (binOp .eql 68 (.iface 29 (.agg #[])) .nilIface).run Tryd.prog w = .ok (.bool false) w := fun _ => by kernel_rfl
  go_enter Tryd.func82, Tryd.ntmps82
  go_wp2_with fail
  refine (H.out _ hup).mono ?_
  rintro e w1 ⟨lr, mr, rfl, hu1, hr⟩
  clear H
  have c3 := hu1.at b3 (by simp)
  have f20 := free_of c3 0
  have q20 := cell_of c3 0
  have f21 := free_of c3 1
  have q21 := cell_of c3 1
  simp only [List.getElem?_toArray, List.getElem?_cons_zero, List.getElem?_cons_succ] at q20 q21
  have hnu := not_uvM c3
  have hall := hup.trans_ext hu1
  go_wp2
  exact bodyPost_ret (v := .agg #[.bool lr, .int .i64 mr]) (by simp [results, Tryd.results82, go_sem, q20, q21]) rfl ⟨_, _, rfl, ((hall).setCell (p := ⟨w.heap.size, 0, none⟩) (Or.inr (Nat.le_refl _)) (.bool lr)).setCell (p := ⟨w.heap.size, 1, none⟩) (Or.inr (Nat.le_refl _)) (.int .i64 mr), ringMi.stab2 _ _ _ _ _ _ hr (((Upto.refl [w.heap.size] w1).setCell (p := ⟨w.heap.size, 0, none⟩) (Or.inl (by simp)) (.bool lr)).setCell (p := ⟨w.heap.size, 1, none⟩) (Or.inl (by simp)) (.int .i64 mr)) hnu⟩

set_option maxRecDepth 100000 in
set_option maxHeartbeats 1600000 in
theorem I_half_Zero1 (w : World) :
    Calls Tryd.prog 79 #[.iface 42 (.agg #[]), .func (.methodOf 66 "Zero") #[] #[]] w fun e w' => ∃ g n c, e = .returned (.agg #[.slice g n c]) ∧ Upto [] w w' ∧ RepN 1 w' (.agg #[.slice g n c]) 0 := by
  have H := Lib.hid (fun u (_ : Upto [] w u) => ringN.hz u)
  have mZN : ∀ w, (method 292 42 (.agg #[]) "Zero").run Tryd.prog w = .ok (37, .agg #[]) w := fun _ => by kernel_rfl
  have b3 := new_at w (.cells #[.slice none 0 0] 45)
  have hup : Upto [] w (w.alloc (.cells #[.slice none 0 0] 45)) := (Upto.refl [] w).alloc _
  have qn : ∀ w, (binOp .eql 66 (.iface 42 (.agg #[])) .nilIface).run Tryd.prog w = .ok (.bool false) w := fun _ => by kernel_rfl
  go_enter Tryd.func79, Tryd.ntmps79
  go_wp2_with fail
  refine (H.out _ hup).mono ?_
  rintro e w1 ⟨v, rfl, hu1, hr⟩
  obtain ⟨gr, nr, cr, rfl⟩ := repN_shape _ _ _ _ hr
  clear H
  have c3 := hu1.at b3 (by simp)
  have f20 := free_of c3 0
  have q20 := cell_of c3 0
  simp only [List.getElem?_toArray, List.getElem?_cons_zero, List.getElem?_cons_succ] at q20
  have hnu := not_uvN c3
  have hall := hup.trans_ext hu1
  go_wp2
  exact bodyPost_ret (v := .agg #[.slice gr nr cr]) (by simp [results, Tryd.results79, go_sem, q20]) rfl ⟨_, _, _, rfl, (hall).setCell (p := ⟨w.heap.size, 0, none⟩) (Or.inr (Nat.le_refl _)) (.slice gr nr cr), ringN.stab2 _ _ _ _ _ _ hr ((Upto.refl [w.heap.size] w1).setCell (p := ⟨w.heap.size, 0, none⟩) (Or.inl (by simp)) (.slice gr nr cr)) hnu⟩

set_option maxRecDepth 100000 in
set_option maxHeartbeats 1600000 in
theorem I_half_Zero2 (w : World) :
    Calls Tryd.prog 82 #[.iface 29 (.agg #[]), .func (.methodOf 68 "Zero") #[] #[]] w fun e w' => ∃ l m, e = .returned (.agg #[.bool l, .int .i64 m]) ∧ Upto [] w w' ∧ RepC 1 w' (.agg #[.bool l, .int .i64 m]) none := by
  have H := Lib.hid (fun u (_ : Upto [] w u) => ringMi.hz u)
  have mZM : ∀ w, (method 292 29 (.agg #[]) "Zero").run Tryd.prog w = .ok (29, .agg #[]) w := fun _ => by kernel_rfl
  have b3 := new_at w (.cells #[.bool false, .int .i64 0] 32)
  have hup : Upto [] w (w.alloc (.cells #[.bool false, .int .i64 0] 32)) := (Upto.refl [] w).alloc _
  have qn : ∀ w, (binOp .eql 68 (.iface 29 (.agg #[])) .nilIface).run Tryd.prog w = .ok (.bool false) w := fun _ => by kernel_rfl
  go_enter Tryd.func82, Tryd.ntmps82
  go_wp2_with fail
  refine (H.out _ hup).mono ?_
  rintro e w1 ⟨v, rfl, hu1, hr⟩
  obtain ⟨lr, mr, rfl⟩ := repC_shape _ _ _ _ hr
  clear H
  have c3 := hu1.at b3 (by simp)
  have f20 := free_of c3 0
  have q20 := cell_of c3 0
  have f21 := free_of c3 1
  have q21 := cell_of c3 1
  simp only [List.getElem?_toArray, List.getElem?_cons_zero, List.getElem?_cons_succ] at q20 q21
  have hnu := not_uvM c3
  have hall := hup.trans_ext hu1
  go_wp2
  exact bodyPost_ret (v := .agg #[.bool lr, .int .i64 mr]) (by simp [results, Tryd.results82, go_sem, q20, q21]) rfl ⟨_, _, rfl, ((hall).setCell (p := ⟨w.heap.size, 0, none⟩) (Or.inr (Nat.le_refl _)) (.bool lr)).setCell (p := ⟨w.heap.size, 1, none⟩) (Or.inr (Nat.le_refl _)) (.int .i64 mr), ringMi.stab2 _ _ _ _ _ _ hr (((Upto.refl [w.heap.size] w1).setCell (p := ⟨w.heap.size, 0, none⟩) (Or.inl (by simp)) (.bool lr)).setCell (p := ⟨w.heap.size, 1, none⟩) (Or.inl (by simp)) (.int .i64 mr)) hnu⟩

set_option maxRecDepth 100000 in
set_option maxHeartbeats 1600000 in
theorem I_half_One1 (w : World) :
    Calls Tryd.prog 79 #[.iface 42 (.agg #[]), .func (.methodOf 66 "One") #[] #[]] w fun e w' => ∃ g n c, e = .returned (.agg #[.slice g n c]) ∧ Upto [] w w' ∧ RepN 1 w' (.agg #[.slice g n c]) 1 := by
  have H := Lib.hid (fun u (_ : Upto [] w u) => ringN.ho u)
  have mON : ∀ w, (method 292 42 (.agg #[]) "One").run Tryd.prog w = .ok (38, .agg #[]) w := fun _ => by kernel_rfl
  have b3 := new_at w (.cells #[.slice none 0 0] 45)
  have hup : Upto [] w (w.alloc (.cells #[.slice none 0 0] 45)) := (Upto.refl [] w).alloc _
  have qn : ∀ w, (binOp .eql 66 (.iface 42 (.agg #[])) .nilIface).run Tryd.prog w = .ok (.bool false) w := fun _ => by kernel_rfl
  go_enter Tryd.func79, Tryd.ntmps79
  go_wp2_with fail
  refine (H.out _ hup).mono ?_
  rintro e w1 ⟨v, rfl, hu1, hr⟩
  obtain ⟨gr, nr, cr, rfl⟩ := repN_shape _ _ _ _ hr
  clear H
  have c3 := hu1.at b3 (by simp)
  have f20 := free_of c3 0
  have q20 := cell_of c3 0
  simp only [List.getElem?_toArray, List.getElem?_cons_zero, List.getElem?_cons_succ] at q20
  have hnu := not_uvN c3
  have hall := hup.trans_ext hu1
  go_wp2
  exact bodyPost_ret (v := .agg #[.slice gr nr cr]) (by simp [results, Tryd.results79, go_sem, q20]) rfl ⟨_, _, _, rfl, (hall).setCell (p := ⟨w.heap.size, 0, none⟩) (Or.inr (Nat.le_refl _)) (.slice gr nr cr), ringN.stab2 _ _ _ _ _ _ hr ((Upto.refl [w.heap.size] w1).setCell (p := ⟨w.heap.size, 0, none⟩) (Or.inl (by simp)) (.slice gr nr cr)) hnu⟩

set_option maxRecDepth 100000 in
set_option maxHeartbeats 1600000 in
theorem I_half_One2 (w : World) :
    Calls Tryd.prog 82 #[.iface 29 (.agg #[]), .func (.methodOf 68 "One") #[] #[]] w fun e w' => ∃ l m, e = .returned (.agg #[.bool l, .int .i64 m]) ∧ Upto [] w w' ∧ RepC 1 w' (.agg #[.bool l, .int .i64 m]) (some 0) := by
  have H := Lib.hid (fun u (_ : Upto [] w u) => ringMi.ho u)
  have mOM : ∀ w, (method 292 29 (.agg #[]) "One").run Tryd.prog w = .ok (31, .agg #[]) w := fun _ => by kernel_rfl
  have b3 := new_at w (.cells #[.bool false, .int .i64 0] 32)
  have hup : Upto [] w (w.alloc (.cells #[.bool false, .int .i64 0] 32)) := (Upto.refl [] w).alloc _
  have qn : ∀ w, (binOp .eql 68 (.iface 29 (.agg #[])) .nilIface).run Tryd.prog w = .ok (.bool false) w := fun _ => by kernel_rfl
  go_enter Tryd.func82, Tryd.ntmps82
  go_wp2_with fail
  refine (H.out _ hup).mono ?_
  rintro e w1 ⟨v, rfl, hu1, hr⟩
  obtain ⟨lr, mr, rfl⟩ := repC_shape _ _ _ _ hr
  clear H
  have c3 := hu1.at b3 (by simp)
  have f20 := free_of c3 0
  have q20 := cell_of c3 0
  have f21 := free_of c3 1
  have q21 := cell_of c3 1
  simp only [List.getElem?_toArray, List.getElem?_cons_zero, List.getElem?_cons_succ] at q20 q21
  have hnu := not_uvM c3
  have hall := hup.trans_ext hu1
  go_wp2
  exact bodyPost_ret (v := .agg #[.bool lr, .int .i64 mr]) (by simp [results, Tryd.results82, go_sem, q20, q21]) rfl ⟨_, _, rfl, ((hall).setCell (p := ⟨w.heap.size, 0, none⟩) (Or.inr (Nat.le_refl _)) (.bool lr)).setCell (p := ⟨w.heap.size, 1, none⟩) (Or.inr (Nat.le_refl _)) (.int .i64 mr), ringMi.stab2 _ _ _ _ _ _ hr (((Upto.refl [w.heap.size] w1).setCell (p := ⟨w.heap.size, 0, none⟩) (Or.inl (by simp)) (.bool lr)).setCell (p := ⟨w.heap.size, 1, none⟩) (Or.inl (by simp)) (.int .i64 mr)) hnu⟩

set_option maxRecDepth 100000 in
set_option maxHeartbeats 1600000 in
theorem I_add_calls (i j : Nat) (hij : i + j ≤ 20) (ga : Option Addr) (na : Nat) (ca : Nat) (la : Bool) (ma : Int) (gb : Option Addr) (nb : Nat) (cb : Nat) (lb : Bool) (mb : Int) {x y : Nat} {x2 y2 : (Option Int)} (w : World)
    (ha : RepN i w (.agg #[.slice ga na ca]) x) (hb : RepN j w (.agg #[.slice gb nb cb]) y) (ha2 : RepC i w (.agg #[.bool la, .int .i64 ma]) x2) (hb2 : RepC j w (.agg #[.bool lb, .int .i64 mb]) y2) :
    Calls Tryd.prog 140 #[.agg #[.iface 42 (.agg #[]), .iface 29 (.agg #[])], .agg #[.slice ga na ca, .bool la, .int .i64 ma], .agg #[.slice gb nb cb, .bool lb, .int .i64 mb]] w fun e w' => ∃ g n c l m, e = .returned (.agg #[.slice g n c, .bool l, .int .i64 m]) ∧ Upto [] w w' ∧ RepN (i + j) w' (.agg #[.slice g n c]) ((fun a b => a + b) x y) ∧ RepC (i + j) w' (.agg #[.bool l, .int .i64 m]) (minO x2 y2) := by
  obtain ⟨W, hW⟩ : ∃ W, W = ((((w.alloc (.cells #[.iface 42 (.agg #[]), .iface 29 (.agg #[])] 70)).alloc (.cells #[.slice ga na ca, .bool la, .int .i64 ma] 78)).alloc (.cells #[.slice gb nb cb, .bool lb, .int .i64 mb] 78)).alloc (.cells #[.slice none 0 0, .bool false, .int .i64 0] 78)) := ⟨_, rfl⟩
  have hup : Upto [] w W := by rw [hW]; exact ((((Upto.refl [] w).alloc _).alloc _).alloc _).alloc _
  have d0 := alloc_old (alloc_old (alloc_old (new_at w (.cells #[.iface 42 (.agg #[]), .iface 29 (.agg #[])] 70)) (.cells #[.slice ga na ca, .bool la, .int .i64 ma] 78)) (.cells #[.slice gb nb cb, .bool lb, .int .i64 mb] 78)) (.cells #[.slice none 0 0, .bool false, .int .i64 0] 78)
  rw [← hW] at d0
  try simp only [World.size_alloc] at d0
  have d1 := alloc_old (alloc_old (new_at (w.alloc (.cells #[.iface 42 (.agg #[]), .iface 29 (.agg #[])] 70)) (.cells #[.slice ga na ca, .bool la, .int .i64 ma] 78)) (.cells #[.slice gb nb cb, .bool lb, .int .i64 mb] 78)) (.cells #[.slice none 0 0, .bool false, .int .i64 0] 78)
  rw [← hW] at d1
  try simp only [World.size_alloc] at d1
  have d2 := alloc_old (new_at ((w.alloc (.cells #[.iface 42 (.agg #[]), .iface 29 (.agg #[])] 70)).alloc (.cells #[.slice ga na ca, .bool la, .int .i64 ma] 78)) (.cells #[.slice gb nb cb, .bool lb, .int .i64 mb] 78)) (.cells #[.slice none 0 0, .bool false, .int .i64 0] 78)
  rw [← hW] at d2
  try simp only [World.size_alloc] at d2
  have d3 := new_at (((w.alloc (.cells #[.iface 42 (.agg #[]), .iface 29 (.agg #[])] 70)).alloc (.cells #[.slice ga na ca, .bool la, .int .i64 ma] 78)).alloc (.cells #[.slice gb nb cb, .bool lb, .int .i64 mb] 78)) (.cells #[.slice none 0 0, .bool false, .int .i64 0] 78)
  rw [← hW] at d3
  try simp only [World.size_alloc] at d3
  replace ha := ringN.stable _ _ _ _ _ ha hup
  replace hb := ringN.stable _ _ _ _ _ hb hup
  replace ha2 := ringMi.stable _ _ _ _ _ ha2 hup
  replace hb2 := ringMi.stable _ _ _ _ _ hb2 hup
  go_enter Tryd.func140, Tryd.ntmps140
  go_wp2_with fail
  simp only [← hW]
  generalize hsz : w.heap.size = sz at *
  clear hW
  have i0 : ∀ u : Ext W, u.w.cell? ⟨sz, 0, none⟩ = some (.iface 42 (.agg #[])) := fun u => u.cell (cell_of d0 0)
  have i1 : ∀ u : Ext W, u.w.cell? ⟨sz, 1, none⟩ = some (.iface 29 (.agg #[])) := fun u => u.cell (cell_of d0 1)
  refine wp_region_seg_at [3, 7] [] [0, 1, 2, 3, 4, 5, 6, 7, 8] [9] 9 (by kernel_rfl) (by kernel_rfl) (by kernel_rfl) ?_
  refine seg_plain rfl rfl rfl rfl rfl ?_
  intro K' hK'
  go_big_quiet_op
  go_big_quiet_on
  refine seg_plain rfl rfl rfl rfl rfl ?_
  intro K' hK'
  go_big_quiet_op
  go_big_quiet_on
  refine seg_plain rfl rfl rfl rfl rfl ?_
  intro K' hK'
  go_big_quiet_op
  go_big_quiet_on
  refine seg_callO (Y := Option Addr × Nat × Nat) (fun tt => .agg #[.slice (tt.1) (tt.2.1) (tt.2.2)]) (fun tt u => RepN (i + j) u (.agg #[.slice (tt.1) (tt.2.1) (tt.2.2)]) ((fun a b => a + b) x y)) (fun _ => []) rfl rfl rfl rfl (fun y u u' h hu => ringN.stable _ _ _ _ _ h hu) (fun _ => List.nodup_nil) (fun w => by go_simp) (fun w hu hd => (I_half_add1 i j hij (sz + 1) (sz + 1 + 1) ga na ca la ma gb nb cb lb mb w (hu.at d1 (by simp)) (hu.at d2 (by simp)) (ringN.stable _ _ _ _ _ ha hu) (ringN.stable _ _ _ _ _ hb hu)).mono fun e w' ⟨gr, nr, cr, h1, h2, h3⟩ => ⟨(gr, nr, cr), h1, h2, h3, fun b hb => by cases hb⟩) ?_
  rintro ⟨gr, nr, cr⟩
  simp only [Act.put, List.setIfInBounds_toArray, List.set_cons_zero, List.set_cons_succ]
  refine seg_plain rfl rfl rfl rfl rfl ?_
  intro K' hK'
  go_big_quiet_op
  go_big_quiet_on
  refine seg_plain rfl rfl rfl rfl rfl ?_
  intro K' hK'
  go_big_quiet_op
  go_big_quiet_on
  refine seg_plain rfl rfl rfl rfl rfl ?_
  intro K' hK'
  go_big_quiet_op
  go_big_quiet_on
  refine seg_callO (Y := Bool × Int) (fun tt => .agg #[.bool (tt.1), .int .i64 (tt.2)]) (fun tt u => RepC (i + j) u (.agg #[.bool (tt.1), .int .i64 (tt.2)]) (minO x2 y2)) (fun _ => []) rfl rfl rfl rfl (fun y u u' h hu => ringMi.stable _ _ _ _ _ h hu) (fun _ => List.nodup_nil) (fun w => by go_simp) (fun w hu hd => (I_half_add2 i j hij (sz + 1) (sz + 1 + 1) ga na ca la ma gb nb cb lb mb w (hu.at d1 (by simp)) (hu.at d2 (by simp)) (ringMi.stable _ _ _ _ _ ha2 hu) (ringMi.stable _ _ _ _ _ hb2 hu)).mono fun e w' ⟨lr, mr, h1, h2, h3⟩ => ⟨(lr, mr), h1, h2, h3, fun b hb => by cases hb⟩) ?_
  rintro ⟨lr, mr⟩
  simp only [Act.put, List.setIfInBounds_toArray, List.set_cons_zero, List.set_cons_succ]
  refine seg_plain rfl rfl rfl rfl rfl ?_
  intro K' hK'
  go_big_quiet_op
  go_big_quiet_on
  intro w9 hg
  have hv := hg.up
  have hrB := hg.hold.1
  have hrA := hg.hold.2.1
  simp only at hrA hrB
  clear hg i0 i1
  simp only [List.drop_succ_cons, List.drop_zero]
  have c3 := hv.at d3 (by simp)
  have f20 := free_of c3 0
  have q20 := cell_of c3 0
  have f21 := free_of c3 1
  have q21 := cell_of c3 1
  have f22 := free_of c3 2
  have q22 := cell_of c3 2
  simp only [List.getElem?_toArray, List.getElem?_cons_zero, List.getElem?_cons_succ] at q20 q21 q22
  have hnu := not_uvI c3
  have hall := hup.trans_ext hv
  clear hv d0 d1 d2 d3
  have hsz2 := hsz
  clear ha hb ha2 hb2
  go_wp2
  have hst : Upto [sz + 1 + 1 + 1] w9 _ := (((Upto.refl [sz + 1 + 1 + 1] w9).setCell (p := ⟨sz + 1 + 1 + 1, 0, none⟩) (Or.inl (by simp)) (.slice gr nr cr)).setCell (p := ⟨sz + 1 + 1 + 1, 1, none⟩) (Or.inl (by simp)) (.bool lr)).setCell (p := ⟨sz + 1 + 1 + 1, 2, none⟩) (Or.inl (by simp)) (.int .i64 mr)
  exact bodyPost_ret (v := .agg #[.slice gr nr cr, .bool lr, .int .i64 mr]) (by simp [results, Tryd.results140, go_sem, q20, q21, q22]) rfl ⟨_, _, _, _, _, rfl, (((hall).setCell (p := ⟨sz + 1 + 1 + 1, 0, none⟩) (Or.inr (by show _ ≤ sz + 1 + 1 + 1; omega)) (.slice gr nr cr)).setCell (p := ⟨sz + 1 + 1 + 1, 1, none⟩) (Or.inr (by show _ ≤ sz + 1 + 1 + 1; omega)) (.bool lr)).setCell (p := ⟨sz + 1 + 1 + 1, 2, none⟩) (Or.inr (by show _ ≤ sz + 1 + 1 + 1; omega)) (.int .i64 mr), ringN.stab2 _ _ _ _ _ _ hrA hst hnu, ringMi.stab2 _ _ _ _ _ _ hrB hst hnu⟩

set_option maxRecDepth 100000 in
set_option maxHeartbeats 1600000 in
theorem I_mul_calls (i j : Nat) (hij : i + j ≤ 20) (ga : Option Addr) (na : Nat) (ca : Nat) (la : Bool) (ma : Int) (gb : Option Addr) (nb : Nat) (cb : Nat) (lb : Bool) (mb : Int) {x y : Nat} {x2 y2 : (Option Int)} (w : World)
    (ha : RepN i w (.agg #[.slice ga na ca]) x) (hb : RepN j w (.agg #[.slice gb nb cb]) y) (ha2 : RepC i w (.agg #[.bool la, .int .i64 ma]) x2) (hb2 : RepC j w (.agg #[.bool lb, .int .i64 mb]) y2) :
    Calls Tryd.prog 141 #[.agg #[.iface 42 (.agg #[]), .iface 29 (.agg #[])], .agg #[.slice ga na ca, .bool la, .int .i64 ma], .agg #[.slice gb nb cb, .bool lb, .int .i64 mb]] w fun e w' => ∃ g n c l m, e = .returned (.agg #[.slice g n c, .bool l, .int .i64 m]) ∧ Upto [] w w' ∧ RepN (i + j) w' (.agg #[.slice g n c]) ((fun a b => a * b) x y) ∧ RepC (i + j) w' (.agg #[.bool l, .int .i64 m]) (mulO x2 y2) := by
  obtain ⟨W, hW⟩ : ∃ W, W = ((((w.alloc (.cells #[.iface 42 (.agg #[]), .iface 29 (.agg #[])] 70)).alloc (.cells #[.slice ga na ca, .bool la, .int .i64 ma] 78)).alloc (.cells #[.slice gb nb cb, .bool lb, .int .i64 mb] 78)).alloc (.cells #[.slice none 0 0, .bool false, .int .i64 0] 78)) := ⟨_, rfl⟩
  have hup : Upto [] w W := by rw [hW]; exact ((((Upto.refl [] w).alloc _).alloc _).alloc _).alloc _
  have d0 := alloc_old (alloc_old (alloc_old (new_at w (.cells #[.iface 42 (.agg #[]), .iface 29 (.agg #[])] 70)) (.cells #[.slice ga na ca, .bool la, .int .i64 ma] 78)) (.cells #[.slice gb nb cb, .bool lb, .int .i64 mb] 78)) (.cells #[.slice none 0 0, .bool false, .int .i64 0] 78)
  rw [← hW] at d0
  try simp only [World.size_alloc] at d0
  have d1 := alloc_old (alloc_old (new_at (w.alloc (.cells #[.iface 42 (.agg #[]), .iface 29 (.agg #[])] 70)) (.cells #[.slice ga na ca, .bool la, .int .i64 ma] 78)) (.cells #[.slice gb nb cb, .bool lb, .int .i64 mb] 78)) (.cells #[.slice none 0 0, .bool false, .int .i64 0] 78)
  rw [← hW] at d1
  try simp only [World.size_alloc] at d1
  have d2 := alloc_old (new_at ((w.alloc (.cells #[.iface 42 (.agg #[]), .iface 29 (.agg #[])] 70)).alloc (.cells #[.slice ga na ca, .bool la, .int .i64 ma] 78)) (.cells #[.slice gb nb cb, .bool lb, .int .i64 mb] 78)) (.cells #[.slice none 0 0, .bool false, .int .i64 0] 78)
  rw [← hW] at d2
  try simp only [World.size_alloc] at d2
  have d3 := new_at (((w.alloc (.cells #[.iface 42 (.agg #[]), .iface 29 (.agg #[])] 70)).alloc (.cells #[.slice ga na ca, .bool la, .int .i64 ma] 78)).alloc (.cells #[.slice gb nb cb, .bool lb, .int .i64 mb] 78)) (.cells #[.slice none 0 0, .bool false, .int .i64 0] 78)
  rw [← hW] at d3
  try simp only [World.size_alloc] at d3
  replace ha := ringN.stable _ _ _ _ _ ha hup
  replace hb := ringN.stable _ _ _ _ _ hb hup
  replace ha2 := ringMi.stable _ _ _ _ _ ha2 hup
  replace hb2 := ringMi.stable _ _ _ _ _ hb2 hup
  go_enter Tryd.func141, Tryd.ntmps141
  go_wp2_with fail
  simp only [← hW]
  generalize hsz : w.heap.size = sz at *
  clear hW
  have i0 : ∀ u : Ext W, u.w.cell? ⟨sz, 0, none⟩ = some (.iface 42 (.agg #[])) := fun u => u.cell (cell_of d0 0)
  have i1 : ∀ u : Ext W, u.w.cell? ⟨sz, 1, none⟩ = some (.iface 29 (.agg #[])) := fun u => u.cell (cell_of d0 1)
  refine wp_region_seg_at [3, 7] [] [0, 1, 2, 3, 4, 5, 6, 7, 8] [9] 9 (by kernel_rfl) (by kernel_rfl) (by kernel_rfl) ?_
  refine seg_plain rfl rfl rfl rfl rfl ?_
  intro K' hK'
  go_big_quiet_op
  go_big_quiet_on
  refine seg_plain rfl rfl rfl rfl rfl ?_
  intro K' hK'
  go_big_quiet_op
  go_big_quiet_on
  refine seg_plain rfl rfl rfl rfl rfl ?_
  intro K' hK'
  go_big_quiet_op
  go_big_quiet_on
  refine seg_callO (Y := Option Addr × Nat × Nat) (fun tt => .agg #[.slice (tt.1) (tt.2.1) (tt.2.2)]) (fun tt u => RepN (i + j) u (.agg #[.slice (tt.1) (tt.2.1) (tt.2.2)]) ((fun a b => a * b) x y)) (fun _ => []) rfl rfl rfl rfl (fun y u u' h hu => ringN.stable _ _ _ _ _ h hu) (fun _ => List.nodup_nil) (fun w => by go_simp) (fun w hu hd => (I_half_mul1 i j hij (sz + 1) (sz + 1 + 1) ga na ca la ma gb nb cb lb mb w (hu.at d1 (by simp)) (hu.at d2 (by simp)) (ringN.stable _ _ _ _ _ ha hu) (ringN.stable _ _ _ _ _ hb hu)).mono fun e w' ⟨gr, nr, cr, h1, h2, h3⟩ => ⟨(gr, nr, cr), h1, h2, h3, fun b hb => by cases hb⟩) ?_
  rintro ⟨gr, nr, cr⟩
  simp only [Act.put, List.setIfInBounds_toArray, List.set_cons_zero, List.set_cons_succ]
  refine seg_plain rfl rfl rfl rfl rfl ?_
  intro K' hK'
  go_big_quiet_op
  go_big_quiet_on
  refine seg_plain rfl rfl rfl rfl rfl ?_
  intro K' hK'
  go_big_quiet_op
  go_big_quiet_on
  refine seg_plain rfl rfl rfl rfl rfl ?_
  intro K' hK'
  go_big_quiet_op
  go_big_quiet_on
  refine seg_callO (Y := Bool × Int) (fun tt => .agg #[.bool (tt.1), .int .i64 (tt.2)]) (fun tt u => RepC (i + j) u (.agg #[.bool (tt.1), .int .i64 (tt.2)]) (mulO x2 y2)) (fun _ => []) rfl rfl rfl rfl (fun y u u' h hu => ringMi.stable _ _ _ _ _ h hu) (fun _ => List.nodup_nil) (fun w => by go_simp) (fun w hu hd => (I_half_mul2 i j hij (sz + 1) (sz + 1 + 1) ga na ca la ma gb nb cb lb mb w (hu.at d1 (by simp)) (hu.at d2 (by simp)) (ringMi.stable _ _ _ _ _ ha2 hu) (ringMi.stable _ _ _ _ _ hb2 hu)).mono fun e w' ⟨lr, mr, h1, h2, h3⟩ => ⟨(lr, mr), h1, h2, h3, fun b hb => by cases hb⟩) ?_
  rintro ⟨lr, mr⟩
  simp only [Act.put, List.setIfInBounds_toArray, List.set_cons_zero, List.set_cons_succ]
  refine seg_plain rfl rfl rfl rfl rfl ?_
  intro K' hK'
  go_big_quiet_op
  go_big_quiet_on
  intro w9 hg
  have hv := hg.up
  have hrB := hg.hold.1
  have hrA := hg.hold.2.1
  simp only at hrA hrB
  clear hg i0 i1
  simp only [List.drop_succ_cons, List.drop_zero]
  have c3 := hv.at d3 (by simp)
  have f20 := free_of c3 0
  have q20 := cell_of c3 0
  have f21 := free_of c3 1
  have q21 := cell_of c3 1
  have f22 := free_of c3 2
  have q22 := cell_of c3 2
  simp only [List.getElem?_toArray, List.getElem?_cons_zero, List.getElem?_cons_succ] at q20 q21 q22
  have hnu := not_uvI c3
  have hall := hup.trans_ext hv
  clear hv d0 d1 d2 d3
  have hsz2 := hsz
  clear ha hb ha2 hb2
  go_wp2
  have hst : Upto [sz + 1 + 1 + 1] w9 _ := (((Upto.refl [sz + 1 + 1 + 1] w9).setCell (p := ⟨sz + 1 + 1 + 1, 0, none⟩) (Or.inl (by simp)) (.slice gr nr cr)).setCell (p := ⟨sz + 1 + 1 + 1, 1, none⟩) (Or.inl (by simp)) (.bool lr)).setCell (p := ⟨sz + 1 + 1 + 1, 2, none⟩) (Or.inl (by simp)) (.int .i64 mr)
  exact bodyPost_ret (v := .agg #[.slice gr nr cr, .bool lr, .int .i64 mr]) (by simp [results, Tryd.results141, go_sem, q20, q21, q22]) rfl ⟨_, _, _, _, _, rfl, (((hall).setCell (p := ⟨sz + 1 + 1 + 1, 0, none⟩) (Or.inr (by show _ ≤ sz + 1 + 1 + 1; omega)) (.slice gr nr cr)).setCell (p := ⟨sz + 1 + 1 + 1, 1, none⟩) (Or.inr (by show _ ≤ sz + 1 + 1 + 1; omega)) (.bool lr)).setCell (p := ⟨sz + 1 + 1 + 1, 2, none⟩) (Or.inr (by show _ ≤ sz + 1 + 1 + 1; omega)) (.int .i64 mr), ringN.stab2 _ _ _ _ _ _ hrA hst hnu, ringMi.stab2 _ _ _ _ _ _ hrB hst hnu⟩

set_option maxRecDepth 100000 in
set_option maxHeartbeats 1600000 in
theorem I_zero_calls (w : World) :
    Calls Tryd.prog 144 #[.agg #[.iface 42 (.agg #[]), .iface 29 (.agg #[])]] w fun e w' => ∃ g n c l m, e = .returned (.agg #[.slice g n c, .bool l, .int .i64 m]) ∧ Upto [] w w' ∧ RepN 1 w' (.agg #[.slice g n c]) 0 ∧ RepC 1 w' (.agg #[.bool l, .int .i64 m]) none := by
  obtain ⟨W, hW⟩ : ∃ W, W = ((w.alloc (.cells #[.iface 42 (.agg #[]), .iface 29 (.agg #[])] 70)).alloc (.cells #[.slice none 0 0, .bool false, .int .i64 0] 78)) := ⟨_, rfl⟩
  have hup : Upto [] w W := by rw [hW]; exact ((Upto.refl [] w).alloc _).alloc _
  have d0 := alloc_old (new_at w (.cells #[.iface 42 (.agg #[]), .iface 29 (.agg #[])] 70)) (.cells #[.slice none 0 0, .bool false, .int .i64 0] 78)
  rw [← hW] at d0
  try simp only [World.size_alloc] at d0
  have d1 := new_at (w.alloc (.cells #[.iface 42 (.agg #[]), .iface 29 (.agg #[])] 70)) (.cells #[.slice none 0 0, .bool false, .int .i64 0] 78)
  rw [← hW] at d1
  try simp only [World.size_alloc] at d1
  go_enter Tryd.func144, Tryd.ntmps144
  go_wp2_with fail
  simp only [← hW]
  generalize hsz : w.heap.size = sz at *
  clear hW
  have i0 : ∀ u : Ext W, u.w.cell? ⟨sz, 0, none⟩ = some (.iface 42 (.agg #[])) := fun u => u.cell (cell_of d0 0)
  have i1 : ∀ u : Ext W, u.w.cell? ⟨sz, 1, none⟩ = some (.iface 29 (.agg #[])) := fun u => u.cell (cell_of d0 1)
  refine wp_region_seg_at [3, 7] [] [0, 1, 2, 3, 4, 5, 6, 7, 8] [9] 9 (by kernel_rfl) (by kernel_rfl) (by kernel_rfl) ?_
  refine seg_plain rfl rfl rfl rfl rfl ?_
  intro K' hK'
  go_big_quiet_op
  go_big_quiet_on
  refine seg_plain rfl rfl rfl rfl rfl ?_
  intro K' hK'
  go_big_quiet_op
  go_big_quiet_on
  refine seg_plain rfl rfl rfl rfl rfl ?_
  intro K' hK'
  go_big_quiet_op
  go_big_quiet_on
  refine seg_callO (Y := Option Addr × Nat × Nat) (fun tt => .agg #[.slice (tt.1) (tt.2.1) (tt.2.2)]) (fun tt u => RepN 1 u (.agg #[.slice (tt.1) (tt.2.1) (tt.2.2)]) 0) (fun _ => []) rfl rfl rfl rfl (fun y u u' h hu => ringN.stable _ _ _ _ _ h hu) (fun _ => List.nodup_nil) (fun w => by go_simp) (fun w hu hd => (I_half_Zero1 w).mono fun e w' ⟨gr, nr, cr, h1, h2, h3⟩ => ⟨(gr, nr, cr), h1, h2, h3, fun b hb => by cases hb⟩) ?_
  rintro ⟨gr, nr, cr⟩
  simp only [Act.put, List.setIfInBounds_toArray, List.set_cons_zero, List.set_cons_succ]
  refine seg_plain rfl rfl rfl rfl rfl ?_
  intro K' hK'
  go_big_quiet_op
  go_big_quiet_on
  refine seg_plain rfl rfl rfl rfl rfl ?_
  intro K' hK'
  go_big_quiet_op
  go_big_quiet_on
  refine seg_plain rfl rfl rfl rfl rfl ?_
  intro K' hK'
  go_big_quiet_op
  go_big_quiet_on
  refine seg_callO (Y := Bool × Int) (fun tt => .agg #[.bool (tt.1), .int .i64 (tt.2)]) (fun tt u => RepC 1 u (.agg #[.bool (tt.1), .int .i64 (tt.2)]) none) (fun _ => []) rfl rfl rfl rfl (fun y u u' h hu => ringMi.stable _ _ _ _ _ h hu) (fun _ => List.nodup_nil) (fun w => by go_simp) (fun w hu hd => (I_half_Zero2 w).mono fun e w' ⟨lr, mr, h1, h2, h3⟩ => ⟨(lr, mr), h1, h2, h3, fun b hb => by cases hb⟩) ?_
  rintro ⟨lr, mr⟩
  simp only [Act.put, List.setIfInBounds_toArray, List.set_cons_zero, List.set_cons_succ]
  refine seg_plain rfl rfl rfl rfl rfl ?_
  intro K' hK'
  go_big_quiet_op
  go_big_quiet_on
  intro w9 hg
  have hv := hg.up
  have hrB := hg.hold.1
  have hrA := hg.hold.2.1
  simp only at hrA hrB
  clear hg i0 i1
  simp only [List.drop_succ_cons, List.drop_zero]
  have c3 := hv.at d1 (by simp)
  have f20 := free_of c3 0
  have q20 := cell_of c3 0
  have f21 := free_of c3 1
  have q21 := cell_of c3 1
  have f22 := free_of c3 2
  have q22 := cell_of c3 2
  simp only [List.getElem?_toArray, List.getElem?_cons_zero, List.getElem?_cons_succ] at q20 q21 q22
  have hnu := not_uvI c3
  have hall := hup.trans_ext hv
  clear hv d0 d1
  have hsz2 := hsz
  go_wp2
  have hst : Upto [sz + 1] w9 _ := (((Upto.refl [sz + 1] w9).setCell (p := ⟨sz + 1, 0, none⟩) (Or.inl (by simp)) (.slice gr nr cr)).setCell (p := ⟨sz + 1, 1, none⟩) (Or.inl (by simp)) (.bool lr)).setCell (p := ⟨sz + 1, 2, none⟩) (Or.inl (by simp)) (.int .i64 mr)
  exact bodyPost_ret (v := .agg #[.slice gr nr cr, .bool lr, .int .i64 mr]) (by simp [results, Tryd.results144, go_sem, q20, q21, q22]) rfl ⟨_, _, _, _, _, rfl, (((hall).setCell (p := ⟨sz + 1, 0, none⟩) (Or.inr (by show _ ≤ sz + 1; omega)) (.slice gr nr cr)).setCell (p := ⟨sz + 1, 1, none⟩) (Or.inr (by show _ ≤ sz + 1; omega)) (.bool lr)).setCell (p := ⟨sz + 1, 2, none⟩) (Or.inr (by show _ ≤ sz + 1; omega)) (.int .i64 mr), ringN.stab2 _ _ _ _ _ _ hrA hst hnu, ringMi.stab2 _ _ _ _ _ _ hrB hst hnu⟩

set_option maxRecDepth 100000 in
set_option maxHeartbeats 1600000 in
theorem I_one_calls (w : World) :
    Calls Tryd.prog 142 #[.agg #[.iface 42 (.agg #[]), .iface 29 (.agg #[])]] w fun e w' => ∃ g n c l m, e = .returned (.agg #[.slice g n c, .bool l, .int .i64 m]) ∧ Upto [] w w' ∧ RepN 1 w' (.agg #[.slice g n c]) 1 ∧ RepC 1 w' (.agg #[.bool l, .int .i64 m]) (some 0) := by
  obtain ⟨W, hW⟩ : ∃ W, W = ((w.alloc (.cells #[.iface 42 (.agg #[]), .iface 29 (.agg #[])] 70)).alloc (.cells #[.slice none 0 0, .bool false, .int .i64 0] 78)) := ⟨_, rfl⟩
  have hup : Upto [] w W := by rw [hW]; exact ((Upto.refl [] w).alloc _).alloc _
  have d0 := alloc_old (new_at w (.cells #[.iface 42 (.agg #[]), .iface 29 (.agg #[])] 70)) (.cells #[.slice none 0 0, .bool false, .int .i64 0] 78)
  rw [← hW] at d0
  try simp only [World.size_alloc] at d0
  have d1 := new_at (w.alloc (.cells #[.iface 42 (.agg #[]), .iface 29 (.agg #[])] 70)) (.cells #[.slice none 0 0, .bool false, .int .i64 0] 78)
  rw [← hW] at d1
  try simp only [World.size_alloc] at d1
  go_enter Tryd.func142, Tryd.ntmps142
  go_wp2_with fail
  simp only [← hW]
  generalize hsz : w.heap.size = sz at *
  clear hW
  have i0 : ∀ u : Ext W, u.w.cell? ⟨sz, 0, none⟩ = some (.iface 42 (.agg #[])) := fun u => u.cell (cell_of d0 0)
  have i1 : ∀ u : Ext W, u.w.cell? ⟨sz, 1, none⟩ = some (.iface 29 (.agg #[])) := fun u => u.cell (cell_of d0 1)
  refine wp_region_seg_at [3, 7] [] [0, 1, 2, 3, 4, 5, 6, 7, 8] [9] 9 (by kernel_rfl) (by kernel_rfl) (by kernel_rfl) ?_
  refine seg_plain rfl rfl rfl rfl rfl ?_
  intro K' hK'
  go_big_quiet_op
  go_big_quiet_on
  refine seg_plain rfl rfl rfl rfl rfl ?_
  intro K' hK'
  go_big_quiet_op
  go_big_quiet_on
  refine seg_plain rfl rfl rfl rfl rfl ?_
  intro K' hK'
  go_big_quiet_op
  go_big_quiet_on
  refine seg_callO (Y := Option Addr × Nat × Nat) (fun tt => .agg #[.slice (tt.1) (tt.2.1) (tt.2.2)]) (fun tt u => RepN 1 u (.agg #[.slice (tt.1) (tt.2.1) (tt.2.2)]) 1) (fun _ => []) rfl rfl rfl rfl (fun y u u' h hu => ringN.stable _ _ _ _ _ h hu) (fun _ => List.nodup_nil) (fun w => by go_simp) (fun w hu hd => (I_half_One1 w).mono fun e w' ⟨gr, nr, cr, h1, h2, h3⟩ => ⟨(gr, nr, cr), h1, h2, h3, fun b hb => by cases hb⟩) ?_
  rintro ⟨gr, nr, cr⟩
  simp only [Act.put, List.setIfInBounds_toArray, List.set_cons_zero, List.set_cons_succ]
  refine seg_plain rfl rfl rfl rfl rfl ?_
  intro K' hK'
  go_big_quiet_op
  go_big_quiet_on
  refine seg_plain rfl rfl rfl rfl rfl ?_
  intro K' hK'
  go_big_quiet_op
  go_big_quiet_on
  refine seg_plain rfl rfl rfl rfl rfl ?_
  intro K' hK'
  go_big_quiet_op
  go_big_quiet_on
  refine seg_callO (Y := Bool × Int) (fun tt => .agg #[.bool (tt.1), .int .i64 (tt.2)]) (fun tt u => RepC 1 u (.agg #[.bool (tt.1), .int .i64 (tt.2)]) (some 0)) (fun _ => []) rfl rfl rfl rfl (fun y u u' h hu => ringMi.stable _ _ _ _ _ h hu) (fun _ => List.nodup_nil) (fun w => by go_simp) (fun w hu hd => (I_half_One2 w).mono fun e w' ⟨lr, mr, h1, h2, h3⟩ => ⟨(lr, mr), h1, h2, h3, fun b hb => by cases hb⟩) ?_
  rintro ⟨lr, mr⟩
  simp only [Act.put, List.setIfInBounds_toArray, List.set_cons_zero, List.set_cons_succ]
  refine seg_plain rfl rfl rfl rfl rfl ?_
  intro K' hK'
  go_big_quiet_op
  go_big_quiet_on
  intro w9 hg
  have hv := hg.up
  have hrB := hg.hold.1
  have hrA := hg.hold.2.1
  simp only at hrA hrB
  clear hg i0 i1
  simp only [List.drop_succ_cons, List.drop_zero]
  have c3 := hv.at d1 (by simp)
  have f20 := free_of c3 0
  have q20 := cell_of c3 0
  have f21 := free_of c3 1
  have q21 := cell_of c3 1
  have f22 := free_of c3 2
  have q22 := cell_of c3 2
  simp only [List.getElem?_toArray, List.getElem?_cons_zero, List.getElem?_cons_succ] at q20 q21 q22
  have hnu := not_uvI c3
  have hall := hup.trans_ext hv
  clear hv d0 d1
  have hsz2 := hsz
  go_wp2
  have hst : Upto [sz + 1] w9 _ := (((Upto.refl [sz + 1] w9).setCell (p := ⟨sz + 1, 0, none⟩) (Or.inl (by simp)) (.slice gr nr cr)).setCell (p := ⟨sz + 1, 1, none⟩) (Or.inl (by simp)) (.bool lr)).setCell (p := ⟨sz + 1, 2, none⟩) (Or.inl (by simp)) (.int .i64 mr)
  exact bodyPost_ret (v := .agg #[.slice gr nr cr, .bool lr, .int .i64 mr]) (by simp [results, Tryd.results142, go_sem, q20, q21, q22]) rfl ⟨_, _, _, _, _, rfl, (((hall).setCell (p := ⟨sz + 1, 0, none⟩) (Or.inr (by show _ ≤ sz + 1; omega)) (.slice gr nr cr)).setCell (p := ⟨sz + 1, 1, none⟩) (Or.inr (by show _ ≤ sz + 1; omega)) (.bool lr)).setCell (p := ⟨sz + 1, 2, none⟩) (Or.inr (by show _ ≤ sz + 1; omega)) (.int .i64 mr), ringN.stab2 _ _ _ _ _ _ hrA hst hnu, ringMi.stab2 _ _ _ _ _ _ hrB hst hnu⟩

set_option maxRecDepth 100000 in
set_option maxHeartbeats 1600000 in
theorem I_same_calls (i j : Nat) (hij : i + j ≤ 20) (ga : Option Addr) (na : Nat) (ca : Nat) (la : Bool) (ma : Int) (gb : Option Addr) (nb : Nat) (cb : Nat) (lb : Bool) (mb : Int) {x y : Nat} {x2 y2 : (Option Int)} (dA dB : Bool) (hA : dA = true ↔ x = y) (hB : dB = true ↔ x2 = y2) (w : World)
    (ha : RepN i w (.agg #[.slice ga na ca]) x) (hb : RepN j w (.agg #[.slice gb nb cb]) y) (ha2 : RepC i w (.agg #[.bool la, .int .i64 ma]) x2) (hb2 : RepC j w (.agg #[.bool lb, .int .i64 mb]) y2) :
    Calls Tryd.prog 143 #[.agg #[.iface 42 (.agg #[]), .iface 29 (.agg #[])], .agg #[.slice ga na ca, .bool la, .int .i64 ma], .agg #[.slice gb nb cb, .bool lb, .int .i64 mb]] w fun e w' => e = .returned (.bool (dA && dB)) ∧ Upto [] w w' := by
  have hup : Upto [] w (((w.alloc (.cells #[.iface 42 (.agg #[]), .iface 29 (.agg #[])] 70)).alloc (.cells #[.slice ga na ca, .bool la, .int .i64 ma] 78)).alloc (.cells #[.slice gb nb cb, .bool lb, .int .i64 mb] 78)) := (((Upto.refl [] w).alloc _).alloc _).alloc _
  have d0 := alloc_old (alloc_old (new_at w (.cells #[.iface 42 (.agg #[]), .iface 29 (.agg #[])] 70)) (.cells #[.slice ga na ca, .bool la, .int .i64 ma] 78)) (.cells #[.slice gb nb cb, .bool lb, .int .i64 mb] 78)
  try simp only [World.size_alloc] at d0
  have d1 := alloc_old (new_at (w.alloc (.cells #[.iface 42 (.agg #[]), .iface 29 (.agg #[])] 70)) (.cells #[.slice ga na ca, .bool la, .int .i64 ma] 78)) (.cells #[.slice gb nb cb, .bool lb, .int .i64 mb] 78)
  try simp only [World.size_alloc] at d1
  have d2 := new_at ((w.alloc (.cells #[.iface 42 (.agg #[]), .iface 29 (.agg #[])] 70)).alloc (.cells #[.slice ga na ca, .bool la, .int .i64 ma] 78)) (.cells #[.slice gb nb cb, .bool lb, .int .i64 mb] 78)
  try simp only [World.size_alloc] at d2
  have H := Lib.hid (ringN.hd i j _ _ _ _ _ dA hij (ringN.stable _ _ _ _ _ ha hup) (ringN.stable _ _ _ _ _ hb hup) hA)
  have H2 := Lib.hid (fun u (hu : Upto [] w u) => ringMi.hd i j u _ _ _ _ dB hij (ringMi.stable _ _ _ _ _ ha2 hu) (ringMi.stable _ _ _ _ _ hb2 hu) hB)
  clear ha hb ha2 hb2 hA hB
  have mSN : ∀ w, (method 292 42 (.agg #[]) "Same").run Tryd.prog w = .ok (40, .agg #[]) w := fun _ => by kernel_rfl
  have qN : ∀ w, (binOp .eql 66 (.iface 42 (.agg #[])) .nilIface).run Tryd.prog w = .ok (.bool false) w := fun _ => by kernel_rfl
  have mSM : ∀ w, (method 292 29 (.agg #[]) "Same").run Tryd.prog w = .ok (27, .agg #[]) w := fun _ => by kernel_rfl
  have qM : ∀ w, (binOp .eql 68 (.iface 29 (.agg #[])) .nilIface).run Tryd.prog w = .ok (.bool false) w := fun _ => by kernel_rfl
  go_enter Tryd.func143, Tryd.ntmps143
  go_wp2_with fail
  refine H.out.mono ?_
  rintro e w1 ⟨rfl, hv⟩
  have hall := hup.trans_ext hv
  replace d0 := hv.at d0 (by simp)
  replace d1 := hv.at d1 (by simp)
  replace d2 := hv.at d2 (by simp)
  have e0 := cell_of d0 0
  have e1 := cell_of d0 1
  have e2 := cell_of d1 0
  have e3 := cell_of d1 1
  have e4 := cell_of d1 2
  have e5 := cell_of d2 0
  have e6 := cell_of d2 1
  have e7 := cell_of d2 2
  simp only [List.getElem?_toArray, List.getElem?_cons_zero, List.getElem?_cons_succ] at e0 e1 e2 e3 e4 e5 e6 e7
  clear d0 d1 d2 hv hup H
  cases dA
  · go_wp2
    go_ret
    exact ⟨rfl, hall⟩
  · go_wp2_with fail
    refine (H2.out _ hall).mono ?_
    rintro e w2 ⟨rfl, hv⟩
    go_wp2
    go_ret
    exact ⟨by simp, hall.trans_ext hv⟩

def RepI (i : Nat) (w : World) (v : Value) (x : (Nat × (Option Int))) : Prop := ∃ (g : Option Addr) (n : Nat) (c : Nat) (l : Bool) (m : Int), v = .agg #[.slice g n c, .bool l, .int .i64 m] ∧ RepN i w (.agg #[.slice g n c]) x.1 ∧ RepC i w (.agg #[.bool l, .int .i64 m]) x.2
theorem repI_shape (i : Nat) (w : World) (v : Value) (x : (Nat × (Option Int))) (h : RepI i w v x) : ∃ g n c l m, v = .agg #[.slice g n c, .bool l, .int .i64 m] := by
  obtain ⟨g, n, c, l, m, h, _⟩ := h
  exact ⟨_, _, _, _, _, h⟩
theorem ringI : Ring (Nat × (Option Int)) (.agg #[.iface 42 (.agg #[]), .iface 29 (.agg #[])]) 144 142 140 141 143 RepI (0, none) (1, (some 0)) (fun a b => ((fun a b => a + b) a.1 b.1, minO a.2 b.2)) (fun a b => ((fun a b => a * b) a.1 b.1, mulO a.2 b.2)) where
  stable := fun i v x w w' ⟨ga, na, ca, la, ma, h1, h2, h3⟩ hu => ⟨_, _, _, _, _, h1, ringN.stable _ _ _ _ _ h2 hu, ringMi.stable _ _ _ _ _ h3 hu⟩
  stab2 := fun i v x w w' B ⟨ga, na, ca, la, ma, h1, h2, h3⟩ hu hn => ⟨_, _, _, _, _, h1, ringN.stab2 _ _ _ _ _ _ h2 hu hn, ringMi.stab2 _ _ _ _ _ _ h3 hu hn⟩
  hz := fun w => (I_zero_calls w).mono fun e w' ⟨gr, nr, cr, lr, mr, m1, m2, m3, m4⟩ => ⟨_, m1, m2, _, _, _, _, _, rfl, m3, m4⟩
  ho := fun w => (I_one_calls w).mono fun e w' ⟨gr, nr, cr, lr, mr, m1, m2, m3, m4⟩ => ⟨_, m1, m2, _, _, _, _, _, rfl, m3, m4⟩
  ha := fun i j w a b x y hij ⟨ga, na, ca, la, ma, h1, h2, h3⟩ ⟨gb, nb, cb, lb, mb, k1, k2, k3⟩ => by
    obtain ⟨x, x2⟩ := x
    obtain ⟨y, y2⟩ := y
    subst h1 k1
    exact (I_add_calls i j hij ga na ca la ma gb nb cb lb mb w h2 k2 h3 k3).mono fun e w' ⟨gr, nr, cr, lr, mr, m1, m2, m3, m4⟩ => ⟨_, m1, m2, _, _, _, _, _, rfl, m3, m4⟩
  hm := fun i j w a b x y hij ⟨ga, na, ca, la, ma, h1, h2, h3⟩ ⟨gb, nb, cb, lb, mb, k1, k2, k3⟩ => by
    obtain ⟨x, x2⟩ := x
    obtain ⟨y, y2⟩ := y
    subst h1 k1
    exact (I_mul_calls i j hij ga na ca la ma gb nb cb lb mb w h2 k2 h3 k3).mono fun e w' ⟨gr, nr, cr, lr, mr, m1, m2, m3, m4⟩ => ⟨_, m1, m2, _, _, _, _, _, rfl, m3, m4⟩
  hs := fun i j w a b x y hij ⟨ga, na, ca, la, ma, h1, h2, h3⟩ ⟨gb, nb, cb, lb, mb, k1, k2, k3⟩ he => by
    obtain ⟨x, x2⟩ := x
    obtain ⟨y, y2⟩ := y
    subst h1 k1
    exact (I_same_calls i j hij ga na ca la ma gb nb cb lb mb true true (by simpa using (Prod.mk.inj he).1) (by simpa using (Prod.mk.inj he).2) w h2 k2 h3 k3).mono fun e w' ⟨m1, m2⟩ => ⟨m1, m2⟩
  hd := fun i j w a b x y d hij ⟨ga, na, ca, la, ma, h1, h2, h3⟩ ⟨gb, nb, cb, lb, mb, k1, k2, k3⟩ he => by
    obtain ⟨x, x2⟩ := x
    obtain ⟨y, y2⟩ := y
    subst h1 k1
    exact (I_same_calls i j hij ga na ca la ma gb nb cb lb mb (@decide (x = y) (Classical.propDecidable _)) (@decide (x2 = y2) (Classical.propDecidable _)) (by simp) (by simp) w h2 k2 h3 k3).mono fun e w' ⟨m1, m2⟩ => ⟨by rw [m1]; congr 2; rw [Bool.eq_iff_iff, he]; simp, m2⟩
  addc := fun x y => Prod.ext (ringN.addc x.1 y.1) (ringMi.addc x.2 y.2)
  adda := fun x y t => Prod.ext (ringN.adda x.1 y.1 t.1) (ringMi.adda x.2 y.2 t.2)
  addz := fun x => Prod.ext (ringN.addz x.1) (ringMi.addz x.2)
  mulc := fun x y => Prod.ext (ringN.mulc x.1 y.1) (ringMi.mulc x.2 y.2)
  mula := fun x y t => Prod.ext (ringN.mula x.1 y.1 t.1) (ringMi.mula x.2 y.2 t.2)
  mulo := fun x => Prod.ext (ringN.mulo x.1) (ringMi.mulo x.2)
  mulz := fun x => Prod.ext (ringN.mulz x.1) (ringMi.mulz x.2)
  dist := fun x y t => Prod.ext (ringN.dist x.1 y.1 t.1) (ringMi.dist x.2 y.2 t.2)

end Go.Proofs.YtifellalnojomaaDoor
