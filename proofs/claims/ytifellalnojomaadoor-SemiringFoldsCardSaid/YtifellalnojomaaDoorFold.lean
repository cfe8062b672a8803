/- Sums and products over slices. -/
import Derived.Test.YtifellalnojomaaDoorPairI
import Derived.Test.YtifellalnojomaaDoorKnown
import Derived.Deep.DeepCutAuto
import Derived.Deep.CutBlock
namespace Go.Proofs.YtifellalnojomaaDoor
open Go.RowKit Go.PL Go.Maps

theorem not_uvNc {w : World} {B : Nat} {g : Option Addr} {n : Nat} {c : Nat} (h : w.heap[B]? = some (.cells #[.slice g n c] 45)) (k m : Nat) : w.cell? ⟨B, k, none⟩ ≠ some (uv m) := by
  rw [cell_of h k]
  match k with
  | 0 => simp [uv]
  | k + 1 => simp

theorem not_uvMc {w : World} {B : Nat} {l : Bool} {m : Int} (h : w.heap[B]? = some (.cells #[.bool l, .int .i64 m] 32)) (k m : Nat) : w.cell? ⟨B, k, none⟩ ≠ some (uv m) := by
  rw [cell_of h k]
  match k with
  | 0 => simp [uv]
  | 1 => simp [uv]
  | k + 2 => simp

set_option maxRecDepth 100000 in
set_option maxHeartbeats 1600000 in
theorem N_sum1 {ln : Nat} (sa : Option Addr) (gl ol sc pl : Nat) {J : Nat → World → Option Addr → Nat → Nat → Prop} {E : Nat → Option Addr → Nat → Nat → Prop} (w : World)
    (hJ : ∀ k u u' g n c, J k u g n c → Upto [] u u' → J k u' g n c) (hJ2 : ∀ k u u' b g n c, J k u g n c → Upto [b] u u' → (∀ i m : Nat, u.cell? ⟨b, i, none⟩ ≠ some (uv m)) → J k u' g n c)
    (h0 : ∀ u, Upto [] w u → Calls Tryd.prog 37 #[.agg #[]] u fun e w' => ∃ g n c, e = .returned (.agg #[.slice g n c]) ∧ Upto [] u w' ∧ J 0 w' g n c)
    (hstep : ∀ k u g n c ge ne ce, k < ln → Upto [] w u → J k u g n c → E k ge ne ce → Calls Tryd.prog 34 #[.agg #[], .agg #[.slice g n c], .agg #[.slice ge ne ce]] u fun e w' => ∃ g n c, e = .returned (.agg #[.slice g n c]) ∧ Upto [] u w' ∧ J (k + 1) w' g n c)
    (hln : ln ≤ 100000000) (hsa : 0 < ln → sa = some ⟨gl, ol, none⟩) (bl : w.heap[pl]? = some (.cells #[.slice sa ln sc] 88)) (hel : ∀ k, k < ln → ∃ ge ne ce, (w.cell? ⟨gl, ol + k, none⟩ = some (.slice ge ne ce)) ∧ E k ge ne ce) :
    Calls Tryd.prog 80 #[.iface 42 (.agg #[]), .pointer (some ⟨pl, 0, none⟩)] w fun e w' => ∃ g n c, e = .returned (.agg #[.slice g n c]) ∧ Upto [] w w' ∧ J ln w' g n c := by
  have b3 := new_at w (.cells #[.slice none 0 0] 45)
  have hup : Upto [] w (w.alloc (.cells #[.slice none 0 0] 45)) := (Upto.refl [] w).alloc _
  have lpl := lt_of_heap bl
  have H0 := Lib.hid (h0 _ hup)
  have HS := Lib.hid hstep
  have HJ := Lib.hid hJ
  have HJ2 := Lib.hid hJ2
  have HE := Lib.hid hel
  have HSA := Lib.hid hsa
  clear h0 hstep hJ hJ2 hel hsa
  have mZN : ∀ w, (method 292 42 (.agg #[]) "Zero").run Tryd.prog w = .ok (37, .agg #[]) w := fun _ => by kernel_rfl
  have mAN : ∀ w, (method 292 42 (.agg #[]) "Add").run Tryd.prog w = .ok (34, .agg #[]) w := fun _ => by kernel_rfl
  go_enter Tryd.func80, Tryd.ntmps80
  go_wp2_with fail
  refine H0.out.mono ?_
  rintro e w1 ⟨g, n, c, rfl, hu1, hj⟩
  have c3 := hu1.at b3 (by simp)
  have bl1 := (hup.trans_ext hu1).at bl (by simp)
  have hall := hup.trans_ext hu1
  have d3 := alloc_old c3 (.cells #[.slice g n c] 45)
  have d4 := new_at w1 (.cells #[.slice g n c] 45)
  have dl := alloc_old bl1 (.cells #[.slice g n c] 45)
  have hj1 := HJ.out _ _ _ _ _ _ hj (((Upto.refl [] w1).alloc (.cells #[.slice g n c] 45)))
  have hU := hall.alloc (.cells #[.slice g n c] 45)
  have hsz0 := lt_of_heap c3
  have ql := cell_of dl 0
  simp only [List.getElem?_toArray, List.getElem?_cons_zero, List.getElem?_cons_succ] at ql
  clear hj c3 bl1 b3 hall hu1 hup H0 bl
  go_wp2_with fail
  generalize hW1 : w1.alloc (.cells #[.slice g n c] 45) = W1 at *
  generalize hB : w1.heap.size = B at *
  generalize hB3 : w.heap.size = B3 at *
  clear hW1 hB ql
  have hne : B3 ≠ B := by omega
  go_loopw [11] (fun i wr => ∃ k : Nat, k ≤ ln ∧ i = .int .i64 k ∧ ∃ g n c, wr.heap[B]? = some (.cells #[.slice g n c] 45) ∧ wr.heap[B3]? = some (.cells #[.slice none 0 0] 45) ∧ Upto [] w wr ∧ J k wr g n c) (fun i _ => ln - (intOf i).toNat)
  case atStart =>
    exact ⟨0, by omega, rfl, _, _, _, d4, d3, hU, hj1⟩
  case round =>
    obtain ⟨k, hk, rfl, g, n, c, e4, e3, hU, hj⟩ := hrel
    clear d3 d4 dl hj1
    rcases Nat.lt_or_ge k ln with hlt | hge
    · have hsa2 := HSA.out (by omega)
      subst hsa2
      obtain ⟨ge, ne, ce, hc0, hE⟩ := HE.out k hlt
      replace hc0 := (hU.cell (World.block_lt_of_cell? w _ hc0) (by simp)).trans hc0
      have a4 := alloc_old e4 (.cells #[.slice ge ne ce] 45)
      have a3 := alloc_old e3 (.cells #[.slice ge ne ce] 45)
      have a6 := new_at wr (.cells #[.slice ge ne ce] 45)
      have hU6 := hU.alloc (.cells #[.slice ge ne ce] 45)
      have hj6 := HJ.out _ _ _ _ _ _ hj ((Upto.refl [] wr).alloc (.cells #[.slice ge ne ce] 45))
      have HC := Lib.hid (HS.out k _ g n c ge ne ce hlt hU6 hj6 hE)
      have hltI : (k : Int) < ln := by omega
      have hk0 : (0 : Int) ≤ k := by omega
      have hkb : (k : Int) ≤ 100000000 := by omega
      have q0 := cell_of a4 0
      have p0 := cell_of a6 0
      simp only [List.getElem?_toArray, List.getElem?_cons_zero, List.getElem?_cons_succ] at q0 p0
      clear e4 e3 hj hj6 hE hU
      go_wp2_with fail
      refine HC.out.mono ?_
      rintro e w5 ⟨gn, nn, cn, rfl, hu5, hj5⟩
      have g4 := hu5.at a4 (by simp)
      have g3 := hu5.at a3 (by simp)
      have hU5 := hU6.trans_ext hu5
      have hnu := not_uvNc g4
      have s0 := cell_of g4 0
      have t10 := free_of g4 0
      simp only [List.getElem?_toArray, List.getElem?_cons_zero, List.getElem?_cons_succ] at s0
      clear a4 a3 a6 HC hU6 hu5 q0 p0 hc0
      go_wp2_with fail
      go_roundw
      case rel => exact ⟨k + 1, by omega, by go_num, _, _, _, by simpa using set_same (g4) 0 (.slice gn nn cn), set_other (g3) hne 0 (.slice gn nn cn), (hU5).setCell (p := ⟨B, 0, none⟩) (Or.inr (by show _ ≤ B; omega)) (.slice gn nn cn), HJ2.out _ _ _ B _ _ _ hj5 ((Upto.refl [B] w5).setCell (p := ⟨B, 0, none⟩) (Or.inl (by simp)) (.slice gn nn cn)) hnu⟩
      case measure => simp [intOf]; omega
    · obtain rfl : k = ln := by omega
      have hgeI : (k : Int) ≥ k := by omega
      have q0 := cell_of e4 0
      have p0 := cell_of e3 0
      have t10 := free_of e3 0
      simp only [List.getElem?_toArray, List.getElem?_cons_zero, List.getElem?_cons_succ] at q0 p0
      have hnu := not_uvNc e3
      clear e4 e3
      go_wp2
      exact bodyPost_ret (v := .agg #[.slice g n c]) (by simp [results, Tryd.results80, go_sem, q0, p0]) rfl ⟨_, _, _, rfl, (hU).setCell (p := ⟨B3, 0, none⟩) (Or.inr (by show _ ≤ B3; omega)) (.slice g n c), HJ2.out _ _ _ B3 _ _ _ hj ((Upto.refl [B3] wr).setCell (p := ⟨B3, 0, none⟩) (Or.inl (by simp)) (.slice g n c)) hnu⟩

set_option maxRecDepth 100000 in
set_option maxHeartbeats 1600000 in
theorem N_sum_half {ln : Nat} (sa : Option Addr) (gl ol sc pl : Nat) {J : Nat → World → Option Addr → Nat → Nat → Prop} {E : Nat → Option Addr → Nat → Nat → Prop} (w : World)
    (hJ : ∀ k u u' g n c, J k u g n c → Upto [] u u' → J k u' g n c) (hJ2 : ∀ k u u' b g n c, J k u g n c → Upto [b] u u' → (∀ i m : Nat, u.cell? ⟨b, i, none⟩ ≠ some (uv m)) → J k u' g n c)
    (h0 : ∀ u, Upto [] w u → Calls Tryd.prog 37 #[.agg #[]] u fun e w' => ∃ g n c, e = .returned (.agg #[.slice g n c]) ∧ Upto [] u w' ∧ J 0 w' g n c)
    (hstep : ∀ k u g n c ge ne ce, k < ln → Upto [] w u → J k u g n c → E k ge ne ce → Calls Tryd.prog 34 #[.agg #[], .agg #[.slice g n c], .agg #[.slice ge ne ce]] u fun e w' => ∃ g n c, e = .returned (.agg #[.slice g n c]) ∧ Upto [] u w' ∧ J (k + 1) w' g n c)
    (hln : ln ≤ 100000000) (hsa : 0 < ln → sa = some ⟨gl, ol, none⟩) (bl : w.heap[pl]? = some (.cells #[.slice sa ln sc] 88)) (hel : ∀ k, k < ln → ∃ ge ne ce, (w.cell? ⟨gl, ol + k, none⟩ = some (.slice ge ne ce)) ∧ E k ge ne ce) :
    Calls Tryd.prog 79 #[.iface 42 (.agg #[]), .func (.func 80) #[] #[.pointer (some ⟨pl, 0, none⟩)]] w fun e w' => ∃ g n c, e = .returned (.agg #[.slice g n c]) ∧ Upto [] w w' ∧ J ln w' g n c := by
  have b3 := new_at w (.cells #[.slice none 0 0] 45)
  have hup : Upto [] w (w.alloc (.cells #[.slice none 0 0] 45)) := (Upto.refl [] w).alloc _
  have H := Lib.hid (N_sum1 (E := E) sa gl ol sc pl _ hJ hJ2 (fun u hu => h0 u (hup.trans_ext hu)) (fun k u g n c ge ne ce hk hu hj he => hstep k u g n c ge ne ce hk (hup.trans_ext hu) hj he) hln hsa (hup.at bl (by simp)) (fun k hk => let ⟨ge, ne, ce, hc0, hE⟩ := hel k hk; ⟨ge, ne, ce, (hup.cell (World.block_lt_of_cell? w _ hc0) (by simp)).trans hc0, hE⟩))
  have HJ2 := Lib.hid hJ2
  clear h0 hstep hJ hJ2 hel hsa bl
  have qn : ∀ w, (binOp .eql 66 (.iface 42 (.agg #[])) .nilIface).run Tryd.prog w = .ok (.bool false) w := fun _ => by kernel_rfl
  go_enter Tryd.func79, Tryd.ntmps79
  go_wp2_with fail
  refine H.out.mono ?_
  rintro e w1 ⟨gr, nr, cr, rfl, hu1, hj⟩
  clear H
  have c3 := hu1.at b3 (by simp)
  have f20 := free_of c3 0
  have q20 := cell_of c3 0
  simp only [List.getElem?_toArray, List.getElem?_cons_zero, List.getElem?_cons_succ] at q20
  have hnu := not_uvN c3
  have hall := hup.trans_ext hu1
  clear c3 b3
  go_wp2
  exact bodyPost_ret (v := .agg #[.slice gr nr cr]) (by simp [results, Tryd.results79, go_sem, q20]) rfl ⟨_, _, _, rfl, (hall).setCell (p := ⟨w.heap.size, 0, none⟩) (Or.inr (by show _ ≤ w.heap.size; omega)) (.slice gr nr cr), HJ2.out _ _ _ _ _ _ _ hj ((Upto.refl [w.heap.size] w1).setCell (p := ⟨w.heap.size, 0, none⟩) (Or.inl (by simp)) (.slice gr nr cr)) hnu⟩

set_option maxRecDepth 100000 in
set_option maxHeartbeats 1600000 in
theorem N_sum_calls {ln : Nat} (sa : Option Addr) (gl ol sc : Nat) {J : Nat → World → Option Addr → Nat → Nat → Prop} {E : Nat → Option Addr → Nat → Nat → Prop} (w : World)
    (hJ : ∀ k u u' g n c, J k u g n c → Upto [] u u' → J k u' g n c) (hJ2 : ∀ k u u' b g n c, J k u g n c → Upto [b] u u' → (∀ i m : Nat, u.cell? ⟨b, i, none⟩ ≠ some (uv m)) → J k u' g n c)
    (h0 : ∀ u, Upto [] w u → Calls Tryd.prog 37 #[.agg #[]] u fun e w' => ∃ g n c, e = .returned (.agg #[.slice g n c]) ∧ Upto [] u w' ∧ J 0 w' g n c)
    (hstep : ∀ k u g n c ge ne ce, k < ln → Upto [] w u → J k u g n c → E k ge ne ce → Calls Tryd.prog 34 #[.agg #[], .agg #[.slice g n c], .agg #[.slice ge ne ce]] u fun e w' => ∃ g n c, e = .returned (.agg #[.slice g n c]) ∧ Upto [] u w' ∧ J (k + 1) w' g n c)
    (hln : ln ≤ 100000000) (hsa : 0 < ln → sa = some ⟨gl, ol, none⟩) (hel : ∀ k, k < ln → ∃ ge ne ce, (w.cell? ⟨gl, ol + k, none⟩ = some (.slice ge ne ce)) ∧ E k ge ne ce) :
    Calls Tryd.prog 50 #[.iface 42 (.agg #[]), .slice sa ln sc] w fun e w' => ∃ g n c, e = .returned (.agg #[.slice g n c]) ∧ Upto [] w w' ∧ J ln w' g n c := by
  have bl := alloc_old (new_at w (.cells #[.slice sa ln sc] 88)) (.cells #[.slice none 0 0] 45)
  have b3 := new_at1 w (.cells #[.slice sa ln sc] 88) (.cells #[.slice none 0 0] 45)
  have hup : Upto [] w ((w.alloc (.cells #[.slice sa ln sc] 88)).alloc (.cells #[.slice none 0 0] 45)) := ((Upto.refl [] w).alloc _).alloc _
  have H := Lib.hid (N_sum_half (E := E) sa gl ol sc w.heap.size _ hJ hJ2 (fun u hu => h0 u (hup.trans_ext hu)) (fun k u g n c ge ne ce hk hu hj he => hstep k u g n c ge ne ce hk (hup.trans_ext hu) hj he) hln hsa bl (fun k hk => let ⟨ge, ne, ce, hc0, hE⟩ := hel k hk; ⟨ge, ne, ce, (hup.cell (World.block_lt_of_cell? w _ hc0) (by simp)).trans hc0, hE⟩))
  have HJ2 := Lib.hid hJ2
  clear h0 hstep hJ hJ2 hel hsa bl
  go_enter Tryd.func50, Tryd.ntmps50
  go_wp2_with fail
  refine H.out.mono ?_
  rintro e w1 ⟨gr, nr, cr, rfl, hu1, hj⟩
  clear H
  have c3 := hu1.at b3 (by simp)
  have f20 := free_of c3 0
  have q20 := cell_of c3 0
  simp only [List.getElem?_toArray, List.getElem?_cons_zero, List.getElem?_cons_succ] at q20
  have hnu := not_uvN c3
  have hall := hup.trans_ext hu1
  clear c3 b3
  go_wp2
  exact bodyPost_ret (v := .agg #[.slice gr nr cr]) (by simp [results, Tryd.results50, go_sem, q20]) rfl ⟨_, _, _, rfl, (hall).setCell (p := ⟨w.heap.size + 1, 0, none⟩) (Or.inr (by show _ ≤ w.heap.size + 1; omega)) (.slice gr nr cr), HJ2.out _ _ _ _ _ _ _ hj ((Upto.refl [w.heap.size + 1] w1).setCell (p := ⟨w.heap.size + 1, 0, none⟩) (Or.inl (by simp)) (.slice gr nr cr)) hnu⟩

set_option maxRecDepth 100000 in
set_option maxHeartbeats 1600000 in
theorem N_prod1 {ln : Nat} (sa : Option Addr) (gl ol sc pl : Nat) {J : Nat → World → Option Addr → Nat → Nat → Prop} {E : Nat → Option Addr → Nat → Nat → Prop} (w : World)
    (hJ : ∀ k u u' g n c, J k u g n c → Upto [] u u' → J k u' g n c) (hJ2 : ∀ k u u' b g n c, J k u g n c → Upto [b] u u' → (∀ i m : Nat, u.cell? ⟨b, i, none⟩ ≠ some (uv m)) → J k u' g n c)
    (h0 : ∀ u, Upto [] w u → Calls Tryd.prog 38 #[.agg #[]] u fun e w' => ∃ g n c, e = .returned (.agg #[.slice g n c]) ∧ Upto [] u w' ∧ J 0 w' g n c)
    (hstep : ∀ k u g n c ge ne ce, k < ln → Upto [] w u → J k u g n c → E k ge ne ce → Calls Tryd.prog 36 #[.agg #[], .agg #[.slice g n c], .agg #[.slice ge ne ce]] u fun e w' => ∃ g n c, e = .returned (.agg #[.slice g n c]) ∧ Upto [] u w' ∧ J (k + 1) w' g n c)
    (hln : ln ≤ 100000000) (hsa : 0 < ln → sa = some ⟨gl, ol, none⟩) (bl : w.heap[pl]? = some (.cells #[.slice sa ln sc] 88)) (hel : ∀ k, k < ln → ∃ ge ne ce, (w.cell? ⟨gl, ol + k, none⟩ = some (.slice ge ne ce)) ∧ E k ge ne ce) :
    Calls Tryd.prog 81 #[.iface 42 (.agg #[]), .pointer (some ⟨pl, 0, none⟩)] w fun e w' => ∃ g n c, e = .returned (.agg #[.slice g n c]) ∧ Upto [] w w' ∧ J ln w' g n c := by
  have b3 := new_at w (.cells #[.slice none 0 0] 45)
  have hup : Upto [] w (w.alloc (.cells #[.slice none 0 0] 45)) := (Upto.refl [] w).alloc _
  have lpl := lt_of_heap bl
  have H0 := Lib.hid (h0 _ hup)
  have HS := Lib.hid hstep
  have HJ := Lib.hid hJ
  have HJ2 := Lib.hid hJ2
  have HE := Lib.hid hel
  have HSA := Lib.hid hsa
  clear h0 hstep hJ hJ2 hel hsa
  have mON : ∀ w, (method 292 42 (.agg #[]) "One").run Tryd.prog w = .ok (38, .agg #[]) w := fun _ => by kernel_rfl
  have mMN : ∀ w, (method 292 42 (.agg #[]) "Mul").run Tryd.prog w = .ok (36, .agg #[]) w := fun _ => by kernel_rfl
  go_enter Tryd.func81, Tryd.ntmps81
  go_wp2_with fail
  refine H0.out.mono ?_
  rintro e w1 ⟨g, n, c, rfl, hu1, hj⟩
  have c3 := hu1.at b3 (by simp)
  have bl1 := (hup.trans_ext hu1).at bl (by simp)
  have hall := hup.trans_ext hu1
  have d3 := alloc_old c3 (.cells #[.slice g n c] 45)
  have d4 := new_at w1 (.cells #[.slice g n c] 45)
  have dl := alloc_old bl1 (.cells #[.slice g n c] 45)
  have hj1 := HJ.out _ _ _ _ _ _ hj (((Upto.refl [] w1).alloc (.cells #[.slice g n c] 45)))
  have hU := hall.alloc (.cells #[.slice g n c] 45)
  have hsz0 := lt_of_heap c3
  have ql := cell_of dl 0
  simp only [List.getElem?_toArray, List.getElem?_cons_zero, List.getElem?_cons_succ] at ql
  clear hj c3 bl1 b3 hall hu1 hup H0 bl
  go_wp2_with fail
  generalize hW1 : w1.alloc (.cells #[.slice g n c] 45) = W1 at *
  generalize hB : w1.heap.size = B at *
  generalize hB3 : w.heap.size = B3 at *
  clear hW1 hB ql
  have hne : B3 ≠ B := by omega
  go_loopw [11] (fun i wr => ∃ k : Nat, k ≤ ln ∧ i = .int .i64 k ∧ ∃ g n c, wr.heap[B]? = some (.cells #[.slice g n c] 45) ∧ wr.heap[B3]? = some (.cells #[.slice none 0 0] 45) ∧ Upto [] w wr ∧ J k wr g n c) (fun i _ => ln - (intOf i).toNat)
  case atStart =>
    exact ⟨0, by omega, rfl, _, _, _, d4, d3, hU, hj1⟩
  case round =>
    obtain ⟨k, hk, rfl, g, n, c, e4, e3, hU, hj⟩ := hrel
    clear d3 d4 dl hj1
    rcases Nat.lt_or_ge k ln with hlt | hge
    · have hsa2 := HSA.out (by omega)
      subst hsa2
      obtain ⟨ge, ne, ce, hc0, hE⟩ := HE.out k hlt
      replace hc0 := (hU.cell (World.block_lt_of_cell? w _ hc0) (by simp)).trans hc0
      have a4 := alloc_old e4 (.cells #[.slice ge ne ce] 45)
      have a3 := alloc_old e3 (.cells #[.slice ge ne ce] 45)
      have a6 := new_at wr (.cells #[.slice ge ne ce] 45)
      have hU6 := hU.alloc (.cells #[.slice ge ne ce] 45)
      have hj6 := HJ.out _ _ _ _ _ _ hj ((Upto.refl [] wr).alloc (.cells #[.slice ge ne ce] 45))
      have HC := Lib.hid (HS.out k _ g n c ge ne ce hlt hU6 hj6 hE)
      have hltI : (k : Int) < ln := by omega
      have hk0 : (0 : Int) ≤ k := by omega
      have hkb : (k : Int) ≤ 100000000 := by omega
      have q0 := cell_of a4 0
      have p0 := cell_of a6 0
      simp only [List.getElem?_toArray, List.getElem?_cons_zero, List.getElem?_cons_succ] at q0 p0
      clear e4 e3 hj hj6 hE hU
      go_wp2_with fail
      refine HC.out.mono ?_
      rintro e w5 ⟨gn, nn, cn, rfl, hu5, hj5⟩
      have g4 := hu5.at a4 (by simp)
      have g3 := hu5.at a3 (by simp)
      have hU5 := hU6.trans_ext hu5
      have hnu := not_uvNc g4
      have s0 := cell_of g4 0
      have t10 := free_of g4 0
      simp only [List.getElem?_toArray, List.getElem?_cons_zero, List.getElem?_cons_succ] at s0
      clear a4 a3 a6 HC hU6 hu5 q0 p0 hc0
      go_wp2_with fail
      go_roundw
      case rel => exact ⟨k + 1, by omega, by go_num, _, _, _, by simpa using set_same (g4) 0 (.slice gn nn cn), set_other (g3) hne 0 (.slice gn nn cn), (hU5).setCell (p := ⟨B, 0, none⟩) (Or.inr (by show _ ≤ B; omega)) (.slice gn nn cn), HJ2.out _ _ _ B _ _ _ hj5 ((Upto.refl [B] w5).setCell (p := ⟨B, 0, none⟩) (Or.inl (by simp)) (.slice gn nn cn)) hnu⟩
      case measure => simp [intOf]; omega
    · obtain rfl : k = ln := by omega
      have hgeI : (k : Int) ≥ k := by omega
      have q0 := cell_of e4 0
      have p0 := cell_of e3 0
      have t10 := free_of e3 0
      simp only [List.getElem?_toArray, List.getElem?_cons_zero, List.getElem?_cons_succ] at q0 p0
      have hnu := not_uvNc e3
      clear e4 e3
      go_wp2
      exact bodyPost_ret (v := .agg #[.slice g n c]) (by simp [results, Tryd.results81, go_sem, q0, p0]) rfl ⟨_, _, _, rfl, (hU).setCell (p := ⟨B3, 0, none⟩) (Or.inr (by show _ ≤ B3; omega)) (.slice g n c), HJ2.out _ _ _ B3 _ _ _ hj ((Upto.refl [B3] wr).setCell (p := ⟨B3, 0, none⟩) (Or.inl (by simp)) (.slice g n c)) hnu⟩

set_option maxRecDepth 100000 in
set_option maxHeartbeats 1600000 in
theorem N_prod_half {ln : Nat} (sa : Option Addr) (gl ol sc pl : Nat) {J : Nat → World → Option Addr → Nat → Nat → Prop} {E : Nat → Option Addr → Nat → Nat → Prop} (w : World)
    (hJ : ∀ k u u' g n c, J k u g n c → Upto [] u u' → J k u' g n c) (hJ2 : ∀ k u u' b g n c, J k u g n c → Upto [b] u u' → (∀ i m : Nat, u.cell? ⟨b, i, none⟩ ≠ some (uv m)) → J k u' g n c)
    (h0 : ∀ u, Upto [] w u → Calls Tryd.prog 38 #[.agg #[]] u fun e w' => ∃ g n c, e = .returned (.agg #[.slice g n c]) ∧ Upto [] u w' ∧ J 0 w' g n c)
    (hstep : ∀ k u g n c ge ne ce, k < ln → Upto [] w u → J k u g n c → E k ge ne ce → Calls Tryd.prog 36 #[.agg #[], .agg #[.slice g n c], .agg #[.slice ge ne ce]] u fun e w' => ∃ g n c, e = .returned (.agg #[.slice g n c]) ∧ Upto [] u w' ∧ J (k + 1) w' g n c)
    (hln : ln ≤ 100000000) (hsa : 0 < ln → sa = some ⟨gl, ol, none⟩) (bl : w.heap[pl]? = some (.cells #[.slice sa ln sc] 88)) (hel : ∀ k, k < ln → ∃ ge ne ce, (w.cell? ⟨gl, ol + k, none⟩ = some (.slice ge ne ce)) ∧ E k ge ne ce) :
    Calls Tryd.prog 79 #[.iface 42 (.agg #[]), .func (.func 81) #[] #[.pointer (some ⟨pl, 0, none⟩)]] w fun e w' => ∃ g n c, e = .returned (.agg #[.slice g n c]) ∧ Upto [] w w' ∧ J ln w' g n c := by
  have b3 := new_at w (.cells #[.slice none 0 0] 45)
  have hup : Upto [] w (w.alloc (.cells #[.slice none 0 0] 45)) := (Upto.refl [] w).alloc _
  have H := Lib.hid (N_prod1 (E := E) sa gl ol sc pl _ hJ hJ2 (fun u hu => h0 u (hup.trans_ext hu)) (fun k u g n c ge ne ce hk hu hj he => hstep k u g n c ge ne ce hk (hup.trans_ext hu) hj he) hln hsa (hup.at bl (by simp)) (fun k hk => let ⟨ge, ne, ce, hc0, hE⟩ := hel k hk; ⟨ge, ne, ce, (hup.cell (World.block_lt_of_cell? w _ hc0) (by simp)).trans hc0, hE⟩))
  have HJ2 := Lib.hid hJ2
  clear h0 hstep hJ hJ2 hel hsa bl
  have qn : ∀ w, (binOp .eql 66 (.iface 42 (.agg #[])) .nilIface).run Tryd.prog w = .ok (.bool false) w := fun _ => by kernel_rfl
  go_enter Tryd.func79, Tryd.ntmps79
  go_wp2_with fail
  refine H.out.mono ?_
  rintro e w1 ⟨gr, nr, cr, rfl, hu1, hj⟩
  clear H
  have c3 := hu1.at b3 (by simp)
  have f20 := free_of c3 0
  have q20 := cell_of c3 0
  simp only [List.getElem?_toArray, List.getElem?_cons_zero, List.getElem?_cons_succ] at q20
  have hnu := not_uvN c3
  have hall := hup.trans_ext hu1
  clear c3 b3
  go_wp2
  exact bodyPost_ret (v := .agg #[.slice gr nr cr]) (by simp [results, Tryd.results79, go_sem, q20]) rfl ⟨_, _, _, rfl, (hall).setCell (p := ⟨w.heap.size, 0, none⟩) (Or.inr (by show _ ≤ w.heap.size; omega)) (.slice gr nr cr), HJ2.out _ _ _ _ _ _ _ hj ((Upto.refl [w.heap.size] w1).setCell (p := ⟨w.heap.size, 0, none⟩) (Or.inl (by simp)) (.slice gr nr cr)) hnu⟩

set_option maxRecDepth 100000 in
set_option maxHeartbeats 1600000 in
theorem N_prod_calls {ln : Nat} (sa : Option Addr) (gl ol sc : Nat) {J : Nat → World → Option Addr → Nat → Nat → Prop} {E : Nat → Option Addr → Nat → Nat → Prop} (w : World)
    (hJ : ∀ k u u' g n c, J k u g n c → Upto [] u u' → J k u' g n c) (hJ2 : ∀ k u u' b g n c, J k u g n c → Upto [b] u u' → (∀ i m : Nat, u.cell? ⟨b, i, none⟩ ≠ some (uv m)) → J k u' g n c)
    (h0 : ∀ u, Upto [] w u → Calls Tryd.prog 38 #[.agg #[]] u fun e w' => ∃ g n c, e = .returned (.agg #[.slice g n c]) ∧ Upto [] u w' ∧ J 0 w' g n c)
    (hstep : ∀ k u g n c ge ne ce, k < ln → Upto [] w u → J k u g n c → E k ge ne ce → Calls Tryd.prog 36 #[.agg #[], .agg #[.slice g n c], .agg #[.slice ge ne ce]] u fun e w' => ∃ g n c, e = .returned (.agg #[.slice g n c]) ∧ Upto [] u w' ∧ J (k + 1) w' g n c)
    (hln : ln ≤ 100000000) (hsa : 0 < ln → sa = some ⟨gl, ol, none⟩) (hel : ∀ k, k < ln → ∃ ge ne ce, (w.cell? ⟨gl, ol + k, none⟩ = some (.slice ge ne ce)) ∧ E k ge ne ce) :
    Calls Tryd.prog 51 #[.iface 42 (.agg #[]), .slice sa ln sc] w fun e w' => ∃ g n c, e = .returned (.agg #[.slice g n c]) ∧ Upto [] w w' ∧ J ln w' g n c := by
  have bl := alloc_old (new_at w (.cells #[.slice sa ln sc] 88)) (.cells #[.slice none 0 0] 45)
  have b3 := new_at1 w (.cells #[.slice sa ln sc] 88) (.cells #[.slice none 0 0] 45)
  have hup : Upto [] w ((w.alloc (.cells #[.slice sa ln sc] 88)).alloc (.cells #[.slice none 0 0] 45)) := ((Upto.refl [] w).alloc _).alloc _
  have H := Lib.hid (N_prod_half (E := E) sa gl ol sc w.heap.size _ hJ hJ2 (fun u hu => h0 u (hup.trans_ext hu)) (fun k u g n c ge ne ce hk hu hj he => hstep k u g n c ge ne ce hk (hup.trans_ext hu) hj he) hln hsa bl (fun k hk => let ⟨ge, ne, ce, hc0, hE⟩ := hel k hk; ⟨ge, ne, ce, (hup.cell (World.block_lt_of_cell? w _ hc0) (by simp)).trans hc0, hE⟩))
  have HJ2 := Lib.hid hJ2
  clear h0 hstep hJ hJ2 hel hsa bl
  go_enter Tryd.func51, Tryd.ntmps51
  go_wp2_with fail
  refine H.out.mono ?_
  rintro e w1 ⟨gr, nr, cr, rfl, hu1, hj⟩
  clear H
  have c3 := hu1.at b3 (by simp)
  have f20 := free_of c3 0
  have q20 := cell_of c3 0
  simp only [List.getElem?_toArray, List.getElem?_cons_zero, List.getElem?_cons_succ] at q20
  have hnu := not_uvN c3
  have hall := hup.trans_ext hu1
  clear c3 b3
  go_wp2
  exact bodyPost_ret (v := .agg #[.slice gr nr cr]) (by simp [results, Tryd.results51, go_sem, q20]) rfl ⟨_, _, _, rfl, (hall).setCell (p := ⟨w.heap.size + 1, 0, none⟩) (Or.inr (by show _ ≤ w.heap.size + 1; omega)) (.slice gr nr cr), HJ2.out _ _ _ _ _ _ _ hj ((Upto.refl [w.heap.size + 1] w1).setCell (p := ⟨w.heap.size + 1, 0, none⟩) (Or.inl (by simp)) (.slice gr nr cr)) hnu⟩

set_option maxRecDepth 100000 in
set_option maxHeartbeats 1600000 in
theorem M_sum1 {ln : Nat} (sa : Option Addr) (gl ol sc pl : Nat) {J : Nat → World → Bool → Int → Prop} {E : Nat → Bool → Int → Prop} (w : World)
    (hJ : ∀ k u u' l m, J k u l m → Upto [] u u' → J k u' l m) (hJ2 : ∀ k u u' b l m, J k u l m → Upto [b] u u' → (∀ i m : Nat, u.cell? ⟨b, i, none⟩ ≠ some (uv m)) → J k u' l m)
    (h0 : ∀ u, Upto [] w u → Calls Tryd.prog 29 #[.agg #[]] u fun e w' => ∃ l m, e = .returned (.agg #[.bool l, .int .i64 m]) ∧ Upto [] u w' ∧ J 0 w' l m)
    (hstep : ∀ k u l m le me, k < ln → Upto [] w u → J k u l m → E k le me → Calls Tryd.prog 21 #[.agg #[], .agg #[.bool l, .int .i64 m], .agg #[.bool le, .int .i64 me]] u fun e w' => ∃ l m, e = .returned (.agg #[.bool l, .int .i64 m]) ∧ Upto [] u w' ∧ J (k + 1) w' l m)
    (hln : ln ≤ 100000000) (hsa : 0 < ln → sa = some ⟨gl, ol, none⟩) (bl : w.heap[pl]? = some (.cells #[.slice sa ln sc] 91)) (hel : ∀ k, k < ln → ∃ le me, (w.cell? ⟨gl, ol + k * 2, none⟩ = some (.bool le) ∧ w.cell? ⟨gl, ol + k * 2 + 1, none⟩ = some (.int .i64 me)) ∧ E k le me) :
    Calls Tryd.prog 83 #[.iface 29 (.agg #[]), .pointer (some ⟨pl, 0, none⟩)] w fun e w' => ∃ l m, e = .returned (.agg #[.bool l, .int .i64 m]) ∧ Upto [] w w' ∧ J ln w' l m := by
  have b3 := new_at w (.cells #[.bool false, .int .i64 0] 32)
  have hup : Upto [] w (w.alloc (.cells #[.bool false, .int .i64 0] 32)) := (Upto.refl [] w).alloc _
  have lpl := lt_of_heap bl
  have H0 := Lib.hid (h0 _ hup)
  have HS := Lib.hid hstep
  have HJ := Lib.hid hJ
  have HJ2 := Lib.hid hJ2
  have HE := Lib.hid hel
  have HSA := Lib.hid hsa
  clear h0 hstep hJ hJ2 hel hsa
  have mZM : ∀ w, (method 292 29 (.agg #[]) "Zero").run Tryd.prog w = .ok (29, .agg #[]) w := fun _ => by kernel_rfl
  have mAM : ∀ w, (method 292 29 (.agg #[]) "Add").run Tryd.prog w = .ok (21, .agg #[]) w := fun _ => by kernel_rfl
  go_enter Tryd.func83, Tryd.ntmps83
  go_wp2_with fail
  refine H0.out.mono ?_
  rintro e w1 ⟨l, m, rfl, hu1, hj⟩
  have c3 := hu1.at b3 (by simp)
  have bl1 := (hup.trans_ext hu1).at bl (by simp)
  have hall := hup.trans_ext hu1
  have d3 := alloc_old c3 (.cells #[.bool l, .int .i64 m] 32)
  have d4 := new_at w1 (.cells #[.bool l, .int .i64 m] 32)
  have dl := alloc_old bl1 (.cells #[.bool l, .int .i64 m] 32)
  have hj1 := HJ.out _ _ _ _ _ hj (((Upto.refl [] w1).alloc (.cells #[.bool l, .int .i64 m] 32)))
  have hU := hall.alloc (.cells #[.bool l, .int .i64 m] 32)
  have hsz0 := lt_of_heap c3
  have ql := cell_of dl 0
  simp only [List.getElem?_toArray, List.getElem?_cons_zero, List.getElem?_cons_succ] at ql
  clear hj c3 bl1 b3 hall hu1 hup H0 bl
  go_wp2_with fail
  generalize hW1 : w1.alloc (.cells #[.bool l, .int .i64 m] 32) = W1 at *
  generalize hB : w1.heap.size = B at *
  generalize hB3 : w.heap.size = B3 at *
  clear hW1 hB ql
  have hne : B3 ≠ B := by omega
  go_loopw [11] (fun i wr => ∃ k : Nat, k ≤ ln ∧ i = .int .i64 k ∧ ∃ l m, wr.heap[B]? = some (.cells #[.bool l, .int .i64 m] 32) ∧ wr.heap[B3]? = some (.cells #[.bool false, .int .i64 0] 32) ∧ Upto [] w wr ∧ J k wr l m) (fun i _ => ln - (intOf i).toNat)
  case atStart =>
    exact ⟨0, by omega, rfl, _, _, d4, d3, hU, hj1⟩
  case round =>
    obtain ⟨k, hk, rfl, l, m, e4, e3, hU, hj⟩ := hrel
    clear d3 d4 dl hj1
    rcases Nat.lt_or_ge k ln with hlt | hge
    · have hsa2 := HSA.out (by omega)
      subst hsa2
      obtain ⟨le, me, ⟨hc0, hc1⟩, hE⟩ := HE.out k hlt
      replace hc0 := (hU.cell (World.block_lt_of_cell? w _ hc0) (by simp)).trans hc0
      replace hc1 := (hU.cell (World.block_lt_of_cell? w _ hc1) (by simp)).trans hc1
      have a4 := alloc_old e4 (.cells #[.bool le, .int .i64 me] 32)
      have a3 := alloc_old e3 (.cells #[.bool le, .int .i64 me] 32)
      have a6 := new_at wr (.cells #[.bool le, .int .i64 me] 32)
      have hU6 := hU.alloc (.cells #[.bool le, .int .i64 me] 32)
      have hj6 := HJ.out _ _ _ _ _ hj ((Upto.refl [] wr).alloc (.cells #[.bool le, .int .i64 me] 32))
      have HC := Lib.hid (HS.out k _ l m le me hlt hU6 hj6 hE)
      have hltI : (k : Int) < ln := by omega
      have hk0 : (0 : Int) ≤ k := by omega
      have hkb : (k : Int) ≤ 100000000 := by omega
      have q0 := cell_of a4 0
      have p0 := cell_of a6 0
      have q1 := cell_of a4 1
      have p1 := cell_of a6 1
      simp only [List.getElem?_toArray, List.getElem?_cons_zero, List.getElem?_cons_succ] at q0 p0 q1 p1
      clear e4 e3 hj hj6 hE hU
      go_wp2_with fail
      refine HC.out.mono ?_
      rintro e w5 ⟨ln, mn, rfl, hu5, hj5⟩
      have g4 := hu5.at a4 (by simp)
      have g3 := hu5.at a3 (by simp)
      have hU5 := hU6.trans_ext hu5
      have hnu := not_uvMc g4
      have s0 := cell_of g4 0
      have t10 := free_of g4 0
      have s1 := cell_of g4 1
      have t11 := free_of g4 1
      simp only [List.getElem?_toArray, List.getElem?_cons_zero, List.getElem?_cons_succ] at s0 s1
      clear a4 a3 a6 HC hU6 hu5 q0 p0 q1 p1 hc0 hc1
      go_wp2_with fail
      go_roundw
      case rel => exact ⟨k + 1, by omega, by go_num, _, _, by simpa using set_same (set_same (g4) 0 (.bool ln)) 1 (.int .i64 mn), set_other (set_other (g3) hne 0 (.bool ln)) hne 1 (.int .i64 mn), ((hU5).setCell (p := ⟨B, 0, none⟩) (Or.inr (by show _ ≤ B; omega)) (.bool ln)).setCell (p := ⟨B, 1, none⟩) (Or.inr (by show _ ≤ B; omega)) (.int .i64 mn), HJ2.out _ _ _ B _ _ hj5 (((Upto.refl [B] w5).setCell (p := ⟨B, 0, none⟩) (Or.inl (by simp)) (.bool ln)).setCell (p := ⟨B, 1, none⟩) (Or.inl (by simp)) (.int .i64 mn)) hnu⟩
      case measure => simp [intOf]; omega
    · obtain rfl : k = ln := by omega
      have hgeI : (k : Int) ≥ k := by omega
      have q0 := cell_of e4 0
      have p0 := cell_of e3 0
      have t10 := free_of e3 0
      have q1 := cell_of e4 1
      have p1 := cell_of e3 1
      have t11 := free_of e3 1
      simp only [List.getElem?_toArray, List.getElem?_cons_zero, List.getElem?_cons_succ] at q0 p0 q1 p1
      have hnu := not_uvMc e3
      clear e4 e3
      go_wp2
      exact bodyPost_ret (v := .agg #[.bool l, .int .i64 m]) (by simp [results, Tryd.results83, go_sem, q0, p0, q1, p1]) rfl ⟨_, _, rfl, ((hU).setCell (p := ⟨B3, 0, none⟩) (Or.inr (by show _ ≤ B3; omega)) (.bool l)).setCell (p := ⟨B3, 1, none⟩) (Or.inr (by show _ ≤ B3; omega)) (.int .i64 m), HJ2.out _ _ _ B3 _ _ hj (((Upto.refl [B3] wr).setCell (p := ⟨B3, 0, none⟩) (Or.inl (by simp)) (.bool l)).setCell (p := ⟨B3, 1, none⟩) (Or.inl (by simp)) (.int .i64 m)) hnu⟩

set_option maxRecDepth 100000 in
set_option maxHeartbeats 1600000 in
theorem M_sum_half {ln : Nat} (sa : Option Addr) (gl ol sc pl : Nat) {J : Nat → World → Bool → Int → Prop} {E : Nat → Bool → Int → Prop} (w : World)
    (hJ : ∀ k u u' l m, J k u l m → Upto [] u u' → J k u' l m) (hJ2 : ∀ k u u' b l m, J k u l m → Upto [b] u u' → (∀ i m : Nat, u.cell? ⟨b, i, none⟩ ≠ some (uv m)) → J k u' l m)
    (h0 : ∀ u, Upto [] w u → Calls Tryd.prog 29 #[.agg #[]] u fun e w' => ∃ l m, e = .returned (.agg #[.bool l, .int .i64 m]) ∧ Upto [] u w' ∧ J 0 w' l m)
    (hstep : ∀ k u l m le me, k < ln → Upto [] w u → J k u l m → E k le me → Calls Tryd.prog 21 #[.agg #[], .agg #[.bool l, .int .i64 m], .agg #[.bool le, .int .i64 me]] u fun e w' => ∃ l m, e = .returned (.agg #[.bool l, .int .i64 m]) ∧ Upto [] u w' ∧ J (k + 1) w' l m)
    (hln : ln ≤ 100000000) (hsa : 0 < ln → sa = some ⟨gl, ol, none⟩) (bl : w.heap[pl]? = some (.cells #[.slice sa ln sc] 91)) (hel : ∀ k, k < ln → ∃ le me, (w.cell? ⟨gl, ol + k * 2, none⟩ = some (.bool le) ∧ w.cell? ⟨gl, ol + k * 2 + 1, none⟩ = some (.int .i64 me)) ∧ E k le me) :
    Calls Tryd.prog 82 #[.iface 29 (.agg #[]), .func (.func 83) #[] #[.pointer (some ⟨pl, 0, none⟩)]] w fun e w' => ∃ l m, e = .returned (.agg #[.bool l, .int .i64 m]) ∧ Upto [] w w' ∧ J ln w' l m := by
  have b3 := new_at w (.cells #[.bool false, .int .i64 0] 32)
  have hup : Upto [] w (w.alloc (.cells #[.bool false, .int .i64 0] 32)) := (Upto.refl [] w).alloc _
  have H := Lib.hid (M_sum1 (E := E) sa gl ol sc pl _ hJ hJ2 (fun u hu => h0 u (hup.trans_ext hu)) (fun k u l m le me hk hu hj he => hstep k u l m le me hk (hup.trans_ext hu) hj he) hln hsa (hup.at bl (by simp)) (fun k hk => let ⟨le, me, ⟨hc0, hc1⟩, hE⟩ := hel k hk; ⟨le, me, ⟨(hup.cell (World.block_lt_of_cell? w _ hc0) (by simp)).trans hc0, (hup.cell (World.block_lt_of_cell? w _ hc1) (by simp)).trans hc1⟩, hE⟩))
  have HJ2 := Lib.hid hJ2
  clear h0 hstep hJ hJ2 hel hsa bl
  have qn : ∀ w, (binOp .eql 68 (.iface 29 (.agg #[])) .nilIface).run Tryd.prog w = .ok (.bool false) w := fun _ => by kernel_rfl
  go_enter Tryd.func82, Tryd.ntmps82
  go_wp2_with fail
  refine H.out.mono ?_
  rintro e w1 ⟨lr, mr, rfl, hu1, hj⟩
  clear H
  have c3 := hu1.at b3 (by simp)
  have f20 := free_of c3 0
  have q20 := cell_of c3 0
  have f21 := free_of c3 1
  have q21 := cell_of c3 1
  simp only [List.getElem?_toArray, List.getElem?_cons_zero, List.getElem?_cons_succ] at q20 q21
  have hnu := not_uvM c3
  have hall := hup.trans_ext hu1
  clear c3 b3
  go_wp2
  exact bodyPost_ret (v := .agg #[.bool lr, .int .i64 mr]) (by simp [results, Tryd.results82, go_sem, q20, q21]) rfl ⟨_, _, rfl, ((hall).setCell (p := ⟨w.heap.size, 0, none⟩) (Or.inr (by show _ ≤ w.heap.size; omega)) (.bool lr)).setCell (p := ⟨w.heap.size, 1, none⟩) (Or.inr (by show _ ≤ w.heap.size; omega)) (.int .i64 mr), HJ2.out _ _ _ _ _ _ hj (((Upto.refl [w.heap.size] w1).setCell (p := ⟨w.heap.size, 0, none⟩) (Or.inl (by simp)) (.bool lr)).setCell (p := ⟨w.heap.size, 1, none⟩) (Or.inl (by simp)) (.int .i64 mr)) hnu⟩

set_option maxRecDepth 100000 in
set_option maxHeartbeats 1600000 in
theorem M_sum_calls {ln : Nat} (sa : Option Addr) (gl ol sc : Nat) {J : Nat → World → Bool → Int → Prop} {E : Nat → Bool → Int → Prop} (w : World)
    (hJ : ∀ k u u' l m, J k u l m → Upto [] u u' → J k u' l m) (hJ2 : ∀ k u u' b l m, J k u l m → Upto [b] u u' → (∀ i m : Nat, u.cell? ⟨b, i, none⟩ ≠ some (uv m)) → J k u' l m)
    (h0 : ∀ u, Upto [] w u → Calls Tryd.prog 29 #[.agg #[]] u fun e w' => ∃ l m, e = .returned (.agg #[.bool l, .int .i64 m]) ∧ Upto [] u w' ∧ J 0 w' l m)
    (hstep : ∀ k u l m le me, k < ln → Upto [] w u → J k u l m → E k le me → Calls Tryd.prog 21 #[.agg #[], .agg #[.bool l, .int .i64 m], .agg #[.bool le, .int .i64 me]] u fun e w' => ∃ l m, e = .returned (.agg #[.bool l, .int .i64 m]) ∧ Upto [] u w' ∧ J (k + 1) w' l m)
    (hln : ln ≤ 100000000) (hsa : 0 < ln → sa = some ⟨gl, ol, none⟩) (hel : ∀ k, k < ln → ∃ le me, (w.cell? ⟨gl, ol + k * 2, none⟩ = some (.bool le) ∧ w.cell? ⟨gl, ol + k * 2 + 1, none⟩ = some (.int .i64 me)) ∧ E k le me) :
    Calls Tryd.prog 52 #[.iface 29 (.agg #[]), .slice sa ln sc] w fun e w' => ∃ l m, e = .returned (.agg #[.bool l, .int .i64 m]) ∧ Upto [] w w' ∧ J ln w' l m := by
  have bl := alloc_old (new_at w (.cells #[.slice sa ln sc] 91)) (.cells #[.bool false, .int .i64 0] 32)
  have b3 := new_at1 w (.cells #[.slice sa ln sc] 91) (.cells #[.bool false, .int .i64 0] 32)
  have hup : Upto [] w ((w.alloc (.cells #[.slice sa ln sc] 91)).alloc (.cells #[.bool false, .int .i64 0] 32)) := ((Upto.refl [] w).alloc _).alloc _
  have H := Lib.hid (M_sum_half (E := E) sa gl ol sc w.heap.size _ hJ hJ2 (fun u hu => h0 u (hup.trans_ext hu)) (fun k u l m le me hk hu hj he => hstep k u l m le me hk (hup.trans_ext hu) hj he) hln hsa bl (fun k hk => let ⟨le, me, ⟨hc0, hc1⟩, hE⟩ := hel k hk; ⟨le, me, ⟨(hup.cell (World.block_lt_of_cell? w _ hc0) (by simp)).trans hc0, (hup.cell (World.block_lt_of_cell? w _ hc1) (by simp)).trans hc1⟩, hE⟩))
  have HJ2 := Lib.hid hJ2
  clear h0 hstep hJ hJ2 hel hsa bl
  go_enter Tryd.func52, Tryd.ntmps52
  go_wp2_with fail
  refine H.out.mono ?_
  rintro e w1 ⟨lr, mr, rfl, hu1, hj⟩
  clear H
  have c3 := hu1.at b3 (by simp)
  have f20 := free_of c3 0
  have q20 := cell_of c3 0
  have f21 := free_of c3 1
  have q21 := cell_of c3 1
  simp only [List.getElem?_toArray, List.getElem?_cons_zero, List.getElem?_cons_succ] at q20 q21
  have hnu := not_uvM c3
  have hall := hup.trans_ext hu1
  clear c3 b3
  go_wp2
  exact bodyPost_ret (v := .agg #[.bool lr, .int .i64 mr]) (by simp [results, Tryd.results52, go_sem, q20, q21]) rfl ⟨_, _, rfl, ((hall).setCell (p := ⟨w.heap.size + 1, 0, none⟩) (Or.inr (by show _ ≤ w.heap.size + 1; omega)) (.bool lr)).setCell (p := ⟨w.heap.size + 1, 1, none⟩) (Or.inr (by show _ ≤ w.heap.size + 1; omega)) (.int .i64 mr), HJ2.out _ _ _ _ _ _ hj (((Upto.refl [w.heap.size + 1] w1).setCell (p := ⟨w.heap.size + 1, 0, none⟩) (Or.inl (by simp)) (.bool lr)).setCell (p := ⟨w.heap.size + 1, 1, none⟩) (Or.inl (by simp)) (.int .i64 mr)) hnu⟩

set_option maxRecDepth 100000 in
set_option maxHeartbeats 1600000 in
theorem M_prod1 {ln : Nat} (sa : Option Addr) (gl ol sc pl : Nat) {J : Nat → World → Bool → Int → Prop} {E : Nat → Bool → Int → Prop} (w : World)
    (hJ : ∀ k u u' l m, J k u l m → Upto [] u u' → J k u' l m) (hJ2 : ∀ k u u' b l m, J k u l m → Upto [b] u u' → (∀ i m : Nat, u.cell? ⟨b, i, none⟩ ≠ some (uv m)) → J k u' l m)
    (h0 : ∀ u, Upto [] w u → Calls Tryd.prog 31 #[.agg #[]] u fun e w' => ∃ l m, e = .returned (.agg #[.bool l, .int .i64 m]) ∧ Upto [] u w' ∧ J 0 w' l m)
    (hstep : ∀ k u l m le me, k < ln → Upto [] w u → J k u l m → E k le me → Calls Tryd.prog 24 #[.agg #[], .agg #[.bool l, .int .i64 m], .agg #[.bool le, .int .i64 me]] u fun e w' => ∃ l m, e = .returned (.agg #[.bool l, .int .i64 m]) ∧ Upto [] u w' ∧ J (k + 1) w' l m)
    (hln : ln ≤ 100000000) (hsa : 0 < ln → sa = some ⟨gl, ol, none⟩) (bl : w.heap[pl]? = some (.cells #[.slice sa ln sc] 91)) (hel : ∀ k, k < ln → ∃ le me, (w.cell? ⟨gl, ol + k * 2, none⟩ = some (.bool le) ∧ w.cell? ⟨gl, ol + k * 2 + 1, none⟩ = some (.int .i64 me)) ∧ E k le me) :
    Calls Tryd.prog 84 #[.iface 29 (.agg #[]), .pointer (some ⟨pl, 0, none⟩)] w fun e w' => ∃ l m, e = .returned (.agg #[.bool l, .int .i64 m]) ∧ Upto [] w w' ∧ J ln w' l m := by
  have b3 := new_at w (.cells #[.bool false, .int .i64 0] 32)
  have hup : Upto [] w (w.alloc (.cells #[.bool false, .int .i64 0] 32)) := (Upto.refl [] w).alloc _
  have lpl := lt_of_heap bl
  have H0 := Lib.hid (h0 _ hup)
  have HS := Lib.hid hstep
  have HJ := Lib.hid hJ
  have HJ2 := Lib.hid hJ2
  have HE := Lib.hid hel
  have HSA := Lib.hid hsa
  clear h0 hstep hJ hJ2 hel hsa
  have mOM : ∀ w, (method 292 29 (.agg #[]) "One").run Tryd.prog w = .ok (31, .agg #[]) w := fun _ => by kernel_rfl
  have mMM : ∀ w, (method 292 29 (.agg #[]) "Mul").run Tryd.prog w = .ok (24, .agg #[]) w := fun _ => by kernel_rfl
  go_enter Tryd.func84, Tryd.ntmps84
  go_wp2_with fail
  refine H0.out.mono ?_
  rintro e w1 ⟨l, m, rfl, hu1, hj⟩
  have c3 := hu1.at b3 (by simp)
  have bl1 := (hup.trans_ext hu1).at bl (by simp)
  have hall := hup.trans_ext hu1
  have d3 := alloc_old c3 (.cells #[.bool l, .int .i64 m] 32)
  have d4 := new_at w1 (.cells #[.bool l, .int .i64 m] 32)
  have dl := alloc_old bl1 (.cells #[.bool l, .int .i64 m] 32)
  have hj1 := HJ.out _ _ _ _ _ hj (((Upto.refl [] w1).alloc (.cells #[.bool l, .int .i64 m] 32)))
  have hU := hall.alloc (.cells #[.bool l, .int .i64 m] 32)
  have hsz0 := lt_of_heap c3
  have ql := cell_of dl 0
  simp only [List.getElem?_toArray, List.getElem?_cons_zero, List.getElem?_cons_succ] at ql
  clear hj c3 bl1 b3 hall hu1 hup H0 bl
  go_wp2_with fail
  generalize hW1 : w1.alloc (.cells #[.bool l, .int .i64 m] 32) = W1 at *
  generalize hB : w1.heap.size = B at *
  generalize hB3 : w.heap.size = B3 at *
  clear hW1 hB ql
  have hne : B3 ≠ B := by omega
  go_loopw [11] (fun i wr => ∃ k : Nat, k ≤ ln ∧ i = .int .i64 k ∧ ∃ l m, wr.heap[B]? = some (.cells #[.bool l, .int .i64 m] 32) ∧ wr.heap[B3]? = some (.cells #[.bool false, .int .i64 0] 32) ∧ Upto [] w wr ∧ J k wr l m) (fun i _ => ln - (intOf i).toNat)
  case atStart =>
    exact ⟨0, by omega, rfl, _, _, d4, d3, hU, hj1⟩
  case round =>
    obtain ⟨k, hk, rfl, l, m, e4, e3, hU, hj⟩ := hrel
    clear d3 d4 dl hj1
    rcases Nat.lt_or_ge k ln with hlt | hge
    · have hsa2 := HSA.out (by omega)
      subst hsa2
      obtain ⟨le, me, ⟨hc0, hc1⟩, hE⟩ := HE.out k hlt
      replace hc0 := (hU.cell (World.block_lt_of_cell? w _ hc0) (by simp)).trans hc0
      replace hc1 := (hU.cell (World.block_lt_of_cell? w _ hc1) (by simp)).trans hc1
      have a4 := alloc_old e4 (.cells #[.bool le, .int .i64 me] 32)
      have a3 := alloc_old e3 (.cells #[.bool le, .int .i64 me] 32)
      have a6 := new_at wr (.cells #[.bool le, .int .i64 me] 32)
      have hU6 := hU.alloc (.cells #[.bool le, .int .i64 me] 32)
      have hj6 := HJ.out _ _ _ _ _ hj ((Upto.refl [] wr).alloc (.cells #[.bool le, .int .i64 me] 32))
      have HC := Lib.hid (HS.out k _ l m le me hlt hU6 hj6 hE)
      have hltI : (k : Int) < ln := by omega
      have hk0 : (0 : Int) ≤ k := by omega
      have hkb : (k : Int) ≤ 100000000 := by omega
      have q0 := cell_of a4 0
      have p0 := cell_of a6 0
      have q1 := cell_of a4 1
      have p1 := cell_of a6 1
      simp only [List.getElem?_toArray, List.getElem?_cons_zero, List.getElem?_cons_succ] at q0 p0 q1 p1
      clear e4 e3 hj hj6 hE hU
      go_wp2_with fail
      refine HC.out.mono ?_
      rintro e w5 ⟨ln, mn, rfl, hu5, hj5⟩
      have g4 := hu5.at a4 (by simp)
      have g3 := hu5.at a3 (by simp)
      have hU5 := hU6.trans_ext hu5
      have hnu := not_uvMc g4
      have s0 := cell_of g4 0
      have t10 := free_of g4 0
      have s1 := cell_of g4 1
      have t11 := free_of g4 1
      simp only [List.getElem?_toArray, List.getElem?_cons_zero, List.getElem?_cons_succ] at s0 s1
      clear a4 a3 a6 HC hU6 hu5 q0 p0 q1 p1 hc0 hc1
      go_wp2_with fail
      go_roundw
      case rel => exact ⟨k + 1, by omega, by go_num, _, _, by simpa using set_same (set_same (g4) 0 (.bool ln)) 1 (.int .i64 mn), set_other (set_other (g3) hne 0 (.bool ln)) hne 1 (.int .i64 mn), ((hU5).setCell (p := ⟨B, 0, none⟩) (Or.inr (by show _ ≤ B; omega)) (.bool ln)).setCell (p := ⟨B, 1, none⟩) (Or.inr (by show _ ≤ B; omega)) (.int .i64 mn), HJ2.out _ _ _ B _ _ hj5 (((Upto.refl [B] w5).setCell (p := ⟨B, 0, none⟩) (Or.inl (by simp)) (.bool ln)).setCell (p := ⟨B, 1, none⟩) (Or.inl (by simp)) (.int .i64 mn)) hnu⟩
      case measure => simp [intOf]; omega
    · obtain rfl : k = ln := by omega
      have hgeI : (k : Int) ≥ k := by omega
      have q0 := cell_of e4 0
      have p0 := cell_of e3 0
      have t10 := free_of e3 0
      have q1 := cell_of e4 1
      have p1 := cell_of e3 1
      have t11 := free_of e3 1
      simp only [List.getElem?_toArray, List.getElem?_cons_zero, List.getElem?_cons_succ] at q0 p0 q1 p1
      have hnu := not_uvMc e3
      clear e4 e3
      go_wp2
      exact bodyPost_ret (v := .agg #[.bool l, .int .i64 m]) (by simp [results, Tryd.results84, go_sem, q0, p0, q1, p1]) rfl ⟨_, _, rfl, ((hU).setCell (p := ⟨B3, 0, none⟩) (Or.inr (by show _ ≤ B3; omega)) (.bool l)).setCell (p := ⟨B3, 1, none⟩) (Or.inr (by show _ ≤ B3; omega)) (.int .i64 m), HJ2.out _ _ _ B3 _ _ hj (((Upto.refl [B3] wr).setCell (p := ⟨B3, 0, none⟩) (Or.inl (by simp)) (.bool l)).setCell (p := ⟨B3, 1, none⟩) (Or.inl (by simp)) (.int .i64 m)) hnu⟩

set_option maxRecDepth 100000 in
set_option maxHeartbeats 1600000 in
theorem M_prod_half {ln : Nat} (sa : Option Addr) (gl ol sc pl : Nat) {J : Nat → World → Bool → Int → Prop} {E : Nat → Bool → Int → Prop} (w : World)
    (hJ : ∀ k u u' l m, J k u l m → Upto [] u u' → J k u' l m) (hJ2 : ∀ k u u' b l m, J k u l m → Upto [b] u u' → (∀ i m : Nat, u.cell? ⟨b, i, none⟩ ≠ some (uv m)) → J k u' l m)
    (h0 : ∀ u, Upto [] w u → Calls Tryd.prog 31 #[.agg #[]] u fun e w' => ∃ l m, e = .returned (.agg #[.bool l, .int .i64 m]) ∧ Upto [] u w' ∧ J 0 w' l m)
    (hstep : ∀ k u l m le me, k < ln → Upto [] w u → J k u l m → E k le me → Calls Tryd.prog 24 #[.agg #[], .agg #[.bool l, .int .i64 m], .agg #[.bool le, .int .i64 me]] u fun e w' => ∃ l m, e = .returned (.agg #[.bool l, .int .i64 m]) ∧ Upto [] u w' ∧ J (k + 1) w' l m)
    (hln : ln ≤ 100000000) (hsa : 0 < ln → sa = some ⟨gl, ol, none⟩) (bl : w.heap[pl]? = some (.cells #[.slice sa ln sc] 91)) (hel : ∀ k, k < ln → ∃ le me, (w.cell? ⟨gl, ol + k * 2, none⟩ = some (.bool le) ∧ w.cell? ⟨gl, ol + k * 2 + 1, none⟩ = some (.int .i64 me)) ∧ E k le me) :
    Calls Tryd.prog 82 #[.iface 29 (.agg #[]), .func (.func 84) #[] #[.pointer (some ⟨pl, 0, none⟩)]] w fun e w' => ∃ l m, e = .returned (.agg #[.bool l, .int .i64 m]) ∧ Upto [] w w' ∧ J ln w' l m := by
  have b3 := new_at w (.cells #[.bool false, .int .i64 0] 32)
  have hup : Upto [] w (w.alloc (.cells #[.bool false, .int .i64 0] 32)) := (Upto.refl [] w).alloc _
  have H := Lib.hid (M_prod1 (E := E) sa gl ol sc pl _ hJ hJ2 (fun u hu => h0 u (hup.trans_ext hu)) (fun k u l m le me hk hu hj he => hstep k u l m le me hk (hup.trans_ext hu) hj he) hln hsa (hup.at bl (by simp)) (fun k hk => let ⟨le, me, ⟨hc0, hc1⟩, hE⟩ := hel k hk; ⟨le, me, ⟨(hup.cell (World.block_lt_of_cell? w _ hc0) (by simp)).trans hc0, (hup.cell (World.block_lt_of_cell? w _ hc1) (by simp)).trans hc1⟩, hE⟩))
  have HJ2 := Lib.hid hJ2
  clear h0 hstep hJ hJ2 hel hsa bl
  have qn : ∀ w, (binOp .eql 68 (.iface 29 (.agg #[])) .nilIface).run Tryd.prog w = .ok (.bool false) w := fun _ => by kernel_rfl
  go_enter Tryd.func82, Tryd.ntmps82
  go_wp2_with fail
  refine H.out.mono ?_
  rintro e w1 ⟨lr, mr, rfl, hu1, hj⟩
  clear H
  have c3 := hu1.at b3 (by simp)
  have f20 := free_of c3 0
  have q20 := cell_of c3 0
  have f21 := free_of c3 1
  have q21 := cell_of c3 1
  simp only [List.getElem?_toArray, List.getElem?_cons_zero, List.getElem?_cons_succ] at q20 q21
  have hnu := not_uvM c3
  have hall := hup.trans_ext hu1
  clear c3 b3
  go_wp2
  exact bodyPost_ret (v := .agg #[.bool lr, .int .i64 mr]) (by simp [results, Tryd.results82, go_sem, q20, q21]) rfl ⟨_, _, rfl, ((hall).setCell (p := ⟨w.heap.size, 0, none⟩) (Or.inr (by show _ ≤ w.heap.size; omega)) (.bool lr)).setCell (p := ⟨w.heap.size, 1, none⟩) (Or.inr (by show _ ≤ w.heap.size; omega)) (.int .i64 mr), HJ2.out _ _ _ _ _ _ hj (((Upto.refl [w.heap.size] w1).setCell (p := ⟨w.heap.size, 0, none⟩) (Or.inl (by simp)) (.bool lr)).setCell (p := ⟨w.heap.size, 1, none⟩) (Or.inl (by simp)) (.int .i64 mr)) hnu⟩

set_option maxRecDepth 100000 in
set_option maxHeartbeats 1600000 in
theorem M_prod_calls {ln : Nat} (sa : Option Addr) (gl ol sc : Nat) {J : Nat → World → Bool → Int → Prop} {E : Nat → Bool → Int → Prop} (w : World)
    (hJ : ∀ k u u' l m, J k u l m → Upto [] u u' → J k u' l m) (hJ2 : ∀ k u u' b l m, J k u l m → Upto [b] u u' → (∀ i m : Nat, u.cell? ⟨b, i, none⟩ ≠ some (uv m)) → J k u' l m)
    (h0 : ∀ u, Upto [] w u → Calls Tryd.prog 31 #[.agg #[]] u fun e w' => ∃ l m, e = .returned (.agg #[.bool l, .int .i64 m]) ∧ Upto [] u w' ∧ J 0 w' l m)
    (hstep : ∀ k u l m le me, k < ln → Upto [] w u → J k u l m → E k le me → Calls Tryd.prog 24 #[.agg #[], .agg #[.bool l, .int .i64 m], .agg #[.bool le, .int .i64 me]] u fun e w' => ∃ l m, e = .returned (.agg #[.bool l, .int .i64 m]) ∧ Upto [] u w' ∧ J (k + 1) w' l m)
    (hln : ln ≤ 100000000) (hsa : 0 < ln → sa = some ⟨gl, ol, none⟩) (hel : ∀ k, k < ln → ∃ le me, (w.cell? ⟨gl, ol + k * 2, none⟩ = some (.bool le) ∧ w.cell? ⟨gl, ol + k * 2 + 1, none⟩ = some (.int .i64 me)) ∧ E k le me) :
    Calls Tryd.prog 53 #[.iface 29 (.agg #[]), .slice sa ln sc] w fun e w' => ∃ l m, e = .returned (.agg #[.bool l, .int .i64 m]) ∧ Upto [] w w' ∧ J ln w' l m := by
  have bl := alloc_old (new_at w (.cells #[.slice sa ln sc] 91)) (.cells #[.bool false, .int .i64 0] 32)
  have b3 := new_at1 w (.cells #[.slice sa ln sc] 91) (.cells #[.bool false, .int .i64 0] 32)
  have hup : Upto [] w ((w.alloc (.cells #[.slice sa ln sc] 91)).alloc (.cells #[.bool false, .int .i64 0] 32)) := ((Upto.refl [] w).alloc _).alloc _
  have H := Lib.hid (M_prod_half (E := E) sa gl ol sc w.heap.size _ hJ hJ2 (fun u hu => h0 u (hup.trans_ext hu)) (fun k u l m le me hk hu hj he => hstep k u l m le me hk (hup.trans_ext hu) hj he) hln hsa bl (fun k hk => let ⟨le, me, ⟨hc0, hc1⟩, hE⟩ := hel k hk; ⟨le, me, ⟨(hup.cell (World.block_lt_of_cell? w _ hc0) (by simp)).trans hc0, (hup.cell (World.block_lt_of_cell? w _ hc1) (by simp)).trans hc1⟩, hE⟩))
  have HJ2 := Lib.hid hJ2
  clear h0 hstep hJ hJ2 hel hsa bl
  go_enter Tryd.func53, Tryd.ntmps53
  go_wp2_with fail
  refine H.out.mono ?_
  rintro e w1 ⟨lr, mr, rfl, hu1, hj⟩
  clear H
  have c3 := hu1.at b3 (by simp)
  have f20 := free_of c3 0
  have q20 := cell_of c3 0
  have f21 := free_of c3 1
  have q21 := cell_of c3 1
  simp only [List.getElem?_toArray, List.getElem?_cons_zero, List.getElem?_cons_succ] at q20 q21
  have hnu := not_uvM c3
  have hall := hup.trans_ext hu1
  clear c3 b3
  go_wp2
  exact bodyPost_ret (v := .agg #[.bool lr, .int .i64 mr]) (by simp [results, Tryd.results53, go_sem, q20, q21]) rfl ⟨_, _, rfl, ((hall).setCell (p := ⟨w.heap.size + 1, 0, none⟩) (Or.inr (by show _ ≤ w.heap.size + 1; omega)) (.bool lr)).setCell (p := ⟨w.heap.size + 1, 1, none⟩) (Or.inr (by show _ ≤ w.heap.size + 1; omega)) (.int .i64 mr), HJ2.out _ _ _ _ _ _ hj (((Upto.refl [w.heap.size + 1] w1).setCell (p := ⟨w.heap.size + 1, 0, none⟩) (Or.inl (by simp)) (.bool lr)).setCell (p := ⟨w.heap.size + 1, 1, none⟩) (Or.inl (by simp)) (.int .i64 mr)) hnu⟩

end Go.Proofs.YtifellalnojomaaDoor
