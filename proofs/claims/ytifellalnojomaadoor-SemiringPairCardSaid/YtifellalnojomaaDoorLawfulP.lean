/- lawful at one type. -/
import Derived.Test.YtifellalnojomaaDoorRing
import Derived.Test.YtifellalnojomaaDoorKnown
import Derived.Deep.DeepCutAuto
import Derived.Deep.CutBlock
namespace Go.Proofs.YtifellalnojomaaDoor
open Go.RowKit Go.PL Go.Maps

set_option maxRecDepth 100000 in
set_option maxHeartbeats 6400000 in
theorem lawfulP {X : Type} {Rep : Nat → World → Value → X → Prop} {z o : X} {add mul : X → X → X} (R : Ring X (.agg #[.iface 23 (.agg #[]), .iface 70 (.agg #[.iface 42 (.agg #[]), .iface 29 (.agg #[])])]) 150 149 44 45 48 Rep z o add mul) (hsh : ∀ i w v x, Rep i w v x → ∃ k g n c l m, v = .agg #[.bool k, .slice g n c, .bool l, .int .i64 m])
    (ka : Bool) (ga : Option Addr) (na : Nat) (ca : Nat) (la : Bool) (ma : Int) (kb : Bool) (gb : Option Addr) (nb : Nat) (cb : Nat) (lb : Bool) (mb : Int) (kc : Bool) (gc : Option Addr) (nc : Nat) (cc : Nat) (lc : Bool) (mc : Int) {x y t : X} (w : World) (ha : Rep 1 w (.agg #[.bool ka, .slice ga na ca, .bool la, .int .i64 ma]) x) (hb : Rep 1 w (.agg #[.bool kb, .slice gb nb cb, .bool lb, .int .i64 mb]) y) (hc : Rep 1 w (.agg #[.bool kc, .slice gc nc cc, .bool lc, .int .i64 mc]) t) :
    Calls Tryd.prog 49 #[.iface 76 (.agg #[.iface 23 (.agg #[]), .iface 70 (.agg #[.iface 42 (.agg #[]), .iface 29 (.agg #[])])]), .agg #[.bool ka, .slice ga na ca, .bool la, .int .i64 ma], .agg #[.bool kb, .slice gb nb cb, .bool lb, .int .i64 mb], .agg #[.bool kc, .slice gc nc cc, .bool lc, .int .i64 mc]] w fun e w' => e = .returned (.bool true) ∧ Upto [] w w' := by
  have HZ := Lib.hid R.hz
  have HO := Lib.hid R.ho
  have mZ : ∀ w, (method 292 76 (.agg #[.iface 23 (.agg #[]), .iface 70 (.agg #[.iface 42 (.agg #[]), .iface 29 (.agg #[])])]) "Zero").run Tryd.prog w = .ok (150, .agg #[.iface 23 (.agg #[]), .iface 70 (.agg #[.iface 42 (.agg #[]), .iface 29 (.agg #[])])]) w := fun _ => by kernel_rfl
  have mO : ∀ w, (method 292 76 (.agg #[.iface 23 (.agg #[]), .iface 70 (.agg #[.iface 42 (.agg #[]), .iface 29 (.agg #[])])]) "One").run Tryd.prog w = .ok (149, .agg #[.iface 23 (.agg #[]), .iface 70 (.agg #[.iface 42 (.agg #[]), .iface 29 (.agg #[])])]) w := fun _ => by kernel_rfl
  have mA : ∀ w, (method 292 76 (.agg #[.iface 23 (.agg #[]), .iface 70 (.agg #[.iface 42 (.agg #[]), .iface 29 (.agg #[])])]) "Add").run Tryd.prog w = .ok (44, .agg #[.iface 23 (.agg #[]), .iface 70 (.agg #[.iface 42 (.agg #[]), .iface 29 (.agg #[])])]) w := fun _ => by kernel_rfl
  have nA : ∀ w, (nilAhead 292 76 (.agg #[.iface 23 (.agg #[]), .iface 70 (.agg #[.iface 42 (.agg #[]), .iface 29 (.agg #[])])]) "Add").run Tryd.prog w = .ok (some false) w := fun _ => by kernel_rfl
  have mM : ∀ w, (method 292 76 (.agg #[.iface 23 (.agg #[]), .iface 70 (.agg #[.iface 42 (.agg #[]), .iface 29 (.agg #[])])]) "Mul").run Tryd.prog w = .ok (45, .agg #[.iface 23 (.agg #[]), .iface 70 (.agg #[.iface 42 (.agg #[]), .iface 29 (.agg #[])])]) w := fun _ => by kernel_rfl
  have nM : ∀ w, (nilAhead 292 76 (.agg #[.iface 23 (.agg #[]), .iface 70 (.agg #[.iface 42 (.agg #[]), .iface 29 (.agg #[])])]) "Mul").run Tryd.prog w = .ok (some false) w := fun _ => by kernel_rfl
  have mS : ∀ w, (method 292 76 (.agg #[.iface 23 (.agg #[]), .iface 70 (.agg #[.iface 42 (.agg #[]), .iface 29 (.agg #[])])]) "Same").run Tryd.prog w = .ok (48, .agg #[.iface 23 (.agg #[]), .iface 70 (.agg #[.iface 42 (.agg #[]), .iface 29 (.agg #[])])]) w := fun _ => by kernel_rfl
  have nS : ∀ w, (nilAhead 292 76 (.agg #[.iface 23 (.agg #[]), .iface 70 (.agg #[.iface 42 (.agg #[]), .iface 29 (.agg #[])])]) "Same").run Tryd.prog w = .ok (some false) w := fun _ => by kernel_rfl
  have b0 := alloc_old (alloc_old (new_at w (.cells #[.bool ka, .slice ga na ca, .bool la, .int .i64 ma] 80)) (.cells #[.bool kb, .slice gb nb cb, .bool lb, .int .i64 mb] 80)) (.cells #[.bool kc, .slice gc nc cc, .bool lc, .int .i64 mc] 80)
  have b1 := alloc_old (new_at1 w (.cells #[.bool ka, .slice ga na ca, .bool la, .int .i64 ma] 80) (.cells #[.bool kb, .slice gb nb cb, .bool lb, .int .i64 mb] 80)) (.cells #[.bool kc, .slice gc nc cc, .bool lc, .int .i64 mc] 80)
  have b2 := new_at1 (w.alloc (.cells #[.bool ka, .slice ga na ca, .bool la, .int .i64 ma] 80)) (.cells #[.bool kb, .slice gb nb cb, .bool lb, .int .i64 mb] 80) (.cells #[.bool kc, .slice gc nc cc, .bool lc, .int .i64 mc] 80)
  have hu0 : Upto [] w (((w.alloc (.cells #[.bool ka, .slice ga na ca, .bool la, .int .i64 ma] 80)).alloc (.cells #[.bool kb, .slice gb nb cb, .bool lb, .int .i64 mb] 80)).alloc (.cells #[.bool kc, .slice gc nc cc, .bool lc, .int .i64 mc] 80)) := (((Upto.refl [] w).alloc _).alloc _).alloc _
  rw [World.size_alloc] at b2
  go_enter Tryd.func49, Tryd.ntmps49
  go_wp2_with fail
  refine (HZ.out _).mono ?_
  rintro e w1 ⟨vz, rfl, hu1, hz⟩
  obtain ⟨kz, gz, nz, cz, lz, mz, rfl⟩ := hsh _ _ _ _ hz
  go_wp2_with fail
  refine (HO.out _).mono ?_
  rintro e w2 ⟨vo, rfl, hu2, ho⟩
  obtain ⟨ko, go, no, co, lo, mo, rfl⟩ := hsh _ _ _ _ ho
  have hu := (hu0.trans_ext hu1).trans_ext hu2
  have hz := R.stable _ _ _ _ _ hz hu2
  replace b0 := hu2.at (hu1.at b0 (by simp)) (by simp)
  replace b1 := hu2.at (hu1.at b1 (by simp)) (by simp)
  replace b2 := hu2.at (hu1.at b2 (by simp)) (by simp)
  have b3 := alloc_old (new_at w2 (.cells #[.bool kz, .slice gz nz cz, .bool lz, .int .i64 mz] 80)) (.cells #[.bool ko, .slice go no co, .bool lo, .int .i64 mo] 80)
  have b4 := new_at1 w2 (.cells #[.bool kz, .slice gz nz cz, .bool lz, .int .i64 mz] 80) (.cells #[.bool ko, .slice go no co, .bool lo, .int .i64 mo] 80)
  have hs : Upto [] w2 ((w2.alloc (.cells #[.bool kz, .slice gz nz cz, .bool lz, .int .i64 mz] 80)).alloc (.cells #[.bool ko, .slice go no co, .bool lo, .int .i64 mo] 80)) := ((Upto.refl [] w2).alloc _).alloc _
  replace b0 := hs.at b0 (by simp)
  replace b1 := hs.at b1 (by simp)
  replace b2 := hs.at b2 (by simp)
  replace hz := R.stable _ _ _ _ _ hz hs
  replace ho := R.stable _ _ _ _ _ ho hs
  replace hu := hu.trans_ext hs
  clear hs
  replace ha := R.stable _ _ _ _ _ ha hu
  replace hb := R.stable _ _ _ _ _ hb hu
  replace hc := R.stable _ _ _ _ _ hc hu
  clear hu0 hu1 hu2 HZ HO
  go_upto_region 2 with fail
  generalize (w2.alloc (.cells #[.bool kz, .slice gz nz cz, .bool lz, .int .i64 mz] 80)).alloc (.cells #[.bool ko, .slice go no co, .bool lo, .int .i64 mo] 80) = W at *
  generalize w2.heap.size = p at *
  generalize w.heap.size = sz at *
  have e0 : ∀ u : Ext W, u.w.cell? ⟨sz, 0, none⟩ = some (.bool ka) := fun u => u.cell (cell_of b0 0)
  have e1 : ∀ u : Ext W, u.w.cell? ⟨sz, 1, none⟩ = some (.slice ga na ca) := fun u => u.cell (cell_of b0 1)
  have e2 : ∀ u : Ext W, u.w.cell? ⟨sz, 2, none⟩ = some (.bool la) := fun u => u.cell (cell_of b0 2)
  have e3 : ∀ u : Ext W, u.w.cell? ⟨sz, 3, none⟩ = some (.int .i64 ma) := fun u => u.cell (cell_of b0 3)
  have e4 : ∀ u : Ext W, u.w.cell? ⟨sz + 1, 0, none⟩ = some (.bool kb) := fun u => u.cell (cell_of b1 0)
  have e5 : ∀ u : Ext W, u.w.cell? ⟨sz + 1, 1, none⟩ = some (.slice gb nb cb) := fun u => u.cell (cell_of b1 1)
  have e6 : ∀ u : Ext W, u.w.cell? ⟨sz + 1, 2, none⟩ = some (.bool lb) := fun u => u.cell (cell_of b1 2)
  have e7 : ∀ u : Ext W, u.w.cell? ⟨sz + 1, 3, none⟩ = some (.int .i64 mb) := fun u => u.cell (cell_of b1 3)
  have e8 : ∀ u : Ext W, u.w.cell? ⟨sz + 1 + 1, 0, none⟩ = some (.bool kc) := fun u => u.cell (cell_of b2 0)
  have e9 : ∀ u : Ext W, u.w.cell? ⟨sz + 1 + 1, 1, none⟩ = some (.slice gc nc cc) := fun u => u.cell (cell_of b2 1)
  have e10 : ∀ u : Ext W, u.w.cell? ⟨sz + 1 + 1, 2, none⟩ = some (.bool lc) := fun u => u.cell (cell_of b2 2)
  have e11 : ∀ u : Ext W, u.w.cell? ⟨sz + 1 + 1, 3, none⟩ = some (.int .i64 mc) := fun u => u.cell (cell_of b2 3)
  have e12 : ∀ u : Ext W, u.w.cell? ⟨p, 0, none⟩ = some (.bool kz) := fun u => u.cell (cell_of b3 0)
  have e13 : ∀ u : Ext W, u.w.cell? ⟨p, 1, none⟩ = some (.slice gz nz cz) := fun u => u.cell (cell_of b3 1)
  have e14 : ∀ u : Ext W, u.w.cell? ⟨p, 2, none⟩ = some (.bool lz) := fun u => u.cell (cell_of b3 2)
  have e15 : ∀ u : Ext W, u.w.cell? ⟨p, 3, none⟩ = some (.int .i64 mz) := fun u => u.cell (cell_of b3 3)
  have e16 : ∀ u : Ext W, u.w.cell? ⟨p + 1, 0, none⟩ = some (.bool ko) := fun u => u.cell (cell_of b4 0)
  have e17 : ∀ u : Ext W, u.w.cell? ⟨p + 1, 1, none⟩ = some (.slice go no co) := fun u => u.cell (cell_of b4 1)
  have e18 : ∀ u : Ext W, u.w.cell? ⟨p + 1, 2, none⟩ = some (.bool lo) := fun u => u.cell (cell_of b4 2)
  have e19 : ∀ u : Ext W, u.w.cell? ⟨p + 1, 3, none⟩ = some (.int .i64 mo) := fun u => u.cell (cell_of b4 3)
  refine wp_region_seg_all [4, 8, 12, 19, 24, 30, 34, 38, 45, 50] [] [0, 1, 2, 3, 4, 5, 6, 7, 8, 9, 10, 11, 12, 13, 14, 15, 16, 17, 18, 19, 20, 21, 22, 23, 24, 25, 26, 27, 28, 29, 30, 31, 32, 33, 34, 35, 36, 37, 38, 39, 40, 41, 42, 43, 44, 45, 46, 47, 48, 49, 50, 51, 52] (by kernel_rfl) (by kernel_rfl) ?_
  refine seg_plain rfl rfl rfl rfl rfl ?_
  intro K' hK'
  go_big_quiet_op
  go_big_quiet_on
  refine seg_plain rfl rfl rfl rfl rfl ?_
  intro K' hK'
  go_big_quiet_op
  go_big_quiet_on
  refine seg_plain rfl rfl rfl rfl rfl ?_
  intro K' hK'
  go_big_quiet_op
  go_big_quiet_on
  refine seg_plain rfl rfl rfl rfl rfl ?_
  intro K' hK'
  go_big_quiet_op
  go_big_quiet_on
  refine seg_callO (fun v : Value => v) (fun v u => Rep 2 u v (add x y)) (fun _ => []) rfl rfl rfl rfl (fun _ _ _ h hu => R.stable _ _ _ _ _ h hu) (fun _ => List.nodup_nil) (fun w => by go_simp) (fun w hu hd => (R.ha 1 1 w _ _ _ _ (by decide) (R.stable _ _ _ _ _ ha hu) (R.stable _ _ _ _ _ hb hu)).mono fun e w' ⟨v, h1, h2, h3⟩ => ⟨v, h1, h2, h3, fun b hb => by cases hb⟩) ?_
  intro v1
  simp only [Act.put, List.setIfInBounds_toArray, List.set_cons_zero, List.set_cons_succ]
  refine seg_plain rfl rfl rfl rfl rfl ?_
  intro K' hK'
  go_big_quiet_op
  go_big_quiet_on
  refine seg_plain rfl rfl rfl rfl rfl ?_
  intro K' hK'
  go_big_quiet_op
  go_big_quiet_on
  refine seg_plain rfl rfl rfl rfl rfl ?_
  intro K' hK'
  go_big_quiet_op
  go_big_quiet_on
  refine seg_callO (fun v : Value => v) (fun v u => Rep 2 u v (add y x)) (fun _ => []) rfl rfl rfl rfl (fun _ _ _ h hu => R.stable _ _ _ _ _ h hu) (fun _ => List.nodup_nil) (fun w => by go_simp) (fun w hu hd => (R.ha 1 1 w _ _ _ _ (by decide) (R.stable _ _ _ _ _ hb hu) (R.stable _ _ _ _ _ ha hu)).mono fun e w' ⟨v, h1, h2, h3⟩ => ⟨v, h1, h2, h3, fun b hb => by cases hb⟩) ?_
  intro v2
  simp only [Act.put, List.setIfInBounds_toArray, List.set_cons_zero, List.set_cons_succ]
  refine seg_plain rfl rfl rfl rfl rfl ?_
  intro K' hK'
  go_big_quiet_op
  go_big_quiet_on
  refine seg_plain rfl rfl rfl rfl rfl ?_
  intro K' hK'
  go_big_quiet_op
  go_big_quiet_on
  refine seg_plain rfl rfl rfl rfl rfl ?_
  intro K' hK'
  go_big_quiet_op
  go_big_quiet_on
  refine seg_call (v := .bool true) rfl rfl rfl rfl (fun w => by go_simp) (fun w hu hd => R.hs 2 2 w _ _ _ _ (by decide) (hd.2.1 (by kernel_rfl)) (hd.1 (by kernel_rfl)) (R.addc x y)) ?_
  simp only [Act.put, List.setIfInBounds_toArray, List.set_cons_zero, List.set_cons_succ]
  refine seg_plain rfl rfl rfl rfl rfl ?_
  intro K' hK'
  go_big_quiet_op
  go_big_quiet_on
  refine seg_plain rfl rfl rfl rfl rfl ?_
  intro K' hK'
  go_big_quiet_op
  go_big_quiet_on
  refine seg_plain rfl rfl rfl rfl rfl ?_
  intro K' hK'
  go_big_quiet_op
  go_big_quiet_on
  refine seg_plain rfl rfl rfl rfl rfl ?_
  intro K' hK'
  go_big_quiet_op
  go_big_quiet_on
  refine seg_plain rfl rfl rfl rfl rfl ?_
  intro K' hK'
  go_big_quiet_op
  go_big_quiet_on
  refine seg_plain rfl rfl rfl rfl rfl ?_
  intro K' hK'
  go_big_quiet_op
  go_big_quiet_on
  refine seg_callO (fun v : Value => v) (fun v u => Rep 2 u v (add x y)) (fun _ => []) rfl rfl rfl rfl (fun _ _ _ h hu => R.stable _ _ _ _ _ h hu) (fun _ => List.nodup_nil) (fun w => by go_simp) (fun w hu hd => (R.ha 1 1 w _ _ _ _ (by decide) (R.stable _ _ _ _ _ ha hu) (R.stable _ _ _ _ _ hb hu)).mono fun e w' ⟨v, h1, h2, h3⟩ => ⟨v, h1, h2, h3, fun b hb => by cases hb⟩) ?_
  intro v3
  simp only [Act.put, List.setIfInBounds_toArray, List.set_cons_zero, List.set_cons_succ]
  refine seg_plain rfl rfl rfl rfl rfl ?_
  intro K' hK'
  go_big_quiet_op
  go_big_quiet_on
  refine seg_plain rfl rfl rfl rfl rfl ?_
  intro K' hK'
  go_big_quiet_op
  go_big_quiet_on
  refine seg_plain rfl rfl rfl rfl rfl ?_
  intro K' hK'
  go_big_quiet_op
  go_big_quiet_on
  refine seg_plain rfl rfl rfl rfl rfl ?_
  intro K' hK'
  go_big_quiet_op
  go_big_quiet_on
  refine seg_callO (fun v : Value => v) (fun v u => Rep 3 u v (add (add x y) t)) (fun _ => []) rfl rfl rfl rfl (fun _ _ _ h hu => R.stable _ _ _ _ _ h hu) (fun _ => List.nodup_nil) (fun w => by go_simp) (fun w hu hd => (R.ha 2 1 w _ _ _ _ (by decide) (hd.1 (by kernel_rfl)) (R.stable _ _ _ _ _ hc hu)).mono fun e w' ⟨v, h1, h2, h3⟩ => ⟨v, h1, h2, h3, fun b hb => by cases hb⟩) ?_
  intro v4
  simp only [Act.put, List.setIfInBounds_toArray, List.set_cons_zero, List.set_cons_succ]
  refine seg_plain rfl rfl rfl rfl rfl ?_
  intro K' hK'
  go_big_quiet_op
  go_big_quiet_on
  refine seg_plain rfl rfl rfl rfl rfl ?_
  intro K' hK'
  go_big_quiet_op
  go_big_quiet_on
  refine seg_plain rfl rfl rfl rfl rfl ?_
  intro K' hK'
  go_big_quiet_op
  go_big_quiet_on
  refine seg_plain rfl rfl rfl rfl rfl ?_
  intro K' hK'
  go_big_quiet_op
  go_big_quiet_on
  refine seg_plain rfl rfl rfl rfl rfl ?_
  intro K' hK'
  go_big_quiet_op
  go_big_quiet_on
  refine seg_callO (fun v : Value => v) (fun v u => Rep 2 u v (add y t)) (fun _ => []) rfl rfl rfl rfl (fun _ _ _ h hu => R.stable _ _ _ _ _ h hu) (fun _ => List.nodup_nil) (fun w => by go_simp) (fun w hu hd => (R.ha 1 1 w _ _ _ _ (by decide) (R.stable _ _ _ _ _ hb hu) (R.stable _ _ _ _ _ hc hu)).mono fun e w' ⟨v, h1, h2, h3⟩ => ⟨v, h1, h2, h3, fun b hb => by cases hb⟩) ?_
  intro v5
  simp only [Act.put, List.setIfInBounds_toArray, List.set_cons_zero, List.set_cons_succ]
  refine seg_plain rfl rfl rfl rfl rfl ?_
  intro K' hK'
  go_big_quiet_op
  go_big_quiet_on
  refine seg_plain rfl rfl rfl rfl rfl ?_
  intro K' hK'
  go_big_quiet_op
  go_big_quiet_on
  refine seg_plain rfl rfl rfl rfl rfl ?_
  intro K' hK'
  go_big_quiet_op
  go_big_quiet_on
  refine seg_callO (fun v : Value => v) (fun v u => Rep 3 u v (add x (add y t))) (fun _ => []) rfl rfl rfl rfl (fun _ _ _ h hu => R.stable _ _ _ _ _ h hu) (fun _ => List.nodup_nil) (fun w => by go_simp) (fun w hu hd => (R.ha 1 2 w _ _ _ _ (by decide) (R.stable _ _ _ _ _ ha hu) (hd.1 (by kernel_rfl))).mono fun e w' ⟨v, h1, h2, h3⟩ => ⟨v, h1, h2, h3, fun b hb => by cases hb⟩) ?_
  intro v6
  simp only [Act.put, List.setIfInBounds_toArray, List.set_cons_zero, List.set_cons_succ]
  refine seg_plain rfl rfl rfl rfl rfl ?_
  intro K' hK'
  go_big_quiet_op
  go_big_quiet_on
  refine seg_plain rfl rfl rfl rfl rfl ?_
  intro K' hK'
  go_big_quiet_op
  go_big_quiet_on
  refine seg_plain rfl rfl rfl rfl rfl ?_
  intro K' hK'
  go_big_quiet_op
  go_big_quiet_on
  refine seg_call (v := .bool true) rfl rfl rfl rfl (fun w => by go_simp) (fun w hu hd => R.hs 3 3 w _ _ _ _ (by decide) (hd.2.2.1 (by kernel_rfl)) (hd.1 (by kernel_rfl)) (R.adda x y t)) ?_
  simp only [Act.put, List.setIfInBounds_toArray, List.set_cons_zero, List.set_cons_succ]
  refine seg_plain rfl rfl rfl rfl rfl ?_
  intro K' hK'
  go_big_quiet_op
  go_big_quiet_on
  refine seg_plain rfl rfl rfl rfl rfl ?_
  intro K' hK'
  go_big_quiet_op
  go_big_quiet_on
  refine seg_plain rfl rfl rfl rfl rfl ?_
  intro K' hK'
  go_big_quiet_op
  go_big_quiet_on
  refine seg_plain rfl rfl rfl rfl rfl ?_
  intro K' hK'
  go_big_quiet_op
  go_big_quiet_on
  refine seg_plain rfl rfl rfl rfl rfl ?_
  intro K' hK'
  go_big_quiet_op
  go_big_quiet_on
  refine seg_plain rfl rfl rfl rfl rfl ?_
  intro K' hK'
  go_big_quiet_op
  go_big_quiet_on
  refine seg_callO (fun v : Value => v) (fun v u => Rep 2 u v (add x z)) (fun _ => []) rfl rfl rfl rfl (fun _ _ _ h hu => R.stable _ _ _ _ _ h hu) (fun _ => List.nodup_nil) (fun w => by go_simp) (fun w hu hd => (R.ha 1 1 w _ _ _ _ (by decide) (R.stable _ _ _ _ _ ha hu) (R.stable _ _ _ _ _ hz hu)).mono fun e w' ⟨v, h1, h2, h3⟩ => ⟨v, h1, h2, h3, fun b hb => by cases hb⟩) ?_
  intro v7
  simp only [Act.put, List.setIfInBounds_toArray, List.set_cons_zero, List.set_cons_succ]
  refine seg_plain rfl rfl rfl rfl rfl ?_
  intro K' hK'
  go_big_quiet_op
  go_big_quiet_on
  refine seg_plain rfl rfl rfl rfl rfl ?_
  intro K' hK'
  go_big_quiet_op
  go_big_quiet_on
  refine seg_plain rfl rfl rfl rfl rfl ?_
  intro K' hK'
  go_big_quiet_op
  go_big_quiet_on
  refine seg_plain rfl rfl rfl rfl rfl ?_
  intro K' hK'
  go_big_quiet_op
  go_big_quiet_on
  refine seg_call (v := .bool true) rfl rfl rfl rfl (fun w => by go_simp) (fun w hu hd => R.hs 2 1 w _ _ _ _ (by decide) (hd.1 (by kernel_rfl)) (R.stable _ _ _ _ _ ha hu) (R.addz x)) ?_
  simp only [Act.put, List.setIfInBounds_toArray, List.set_cons_zero, List.set_cons_succ]
  refine seg_plain rfl rfl rfl rfl rfl ?_
  intro K' hK'
  go_big_quiet_op
  go_big_quiet_on
  refine seg_plain rfl rfl rfl rfl rfl ?_
  intro K' hK'
  go_big_quiet_op
  go_big_quiet_on
  intro w12 hg
  have hv := hg.up
  clear hg e0 e1 e2 e3 e4 e5 e6 e7 e8 e9 e10 e11 e12 e13 e14 e15 e16 e17 e18 e19
  replace b0 := hv.at b0 (by simp)
  replace b1 := hv.at b1 (by simp)
  replace b2 := hv.at b2 (by simp)
  replace b3 := hv.at b3 (by simp)
  replace b4 := hv.at b4 (by simp)
  replace ha := R.stable _ _ _ _ _ ha hv
  replace hb := R.stable _ _ _ _ _ hb hv
  replace hc := R.stable _ _ _ _ _ hc hv
  replace hz := R.stable _ _ _ _ _ hz hv
  replace ho := R.stable _ _ _ _ _ ho hv
  replace hu := hu.trans_ext hv
  clear hv
  go_upto_region 3 with fail
  have e0 : ∀ u : Ext w12, u.w.cell? ⟨sz, 0, none⟩ = some (.bool ka) := fun u => u.cell (cell_of b0 0)
  have e1 : ∀ u : Ext w12, u.w.cell? ⟨sz, 1, none⟩ = some (.slice ga na ca) := fun u => u.cell (cell_of b0 1)
  have e2 : ∀ u : Ext w12, u.w.cell? ⟨sz, 2, none⟩ = some (.bool la) := fun u => u.cell (cell_of b0 2)
  have e3 : ∀ u : Ext w12, u.w.cell? ⟨sz, 3, none⟩ = some (.int .i64 ma) := fun u => u.cell (cell_of b0 3)
  have e4 : ∀ u : Ext w12, u.w.cell? ⟨sz + 1, 0, none⟩ = some (.bool kb) := fun u => u.cell (cell_of b1 0)
  have e5 : ∀ u : Ext w12, u.w.cell? ⟨sz + 1, 1, none⟩ = some (.slice gb nb cb) := fun u => u.cell (cell_of b1 1)
  have e6 : ∀ u : Ext w12, u.w.cell? ⟨sz + 1, 2, none⟩ = some (.bool lb) := fun u => u.cell (cell_of b1 2)
  have e7 : ∀ u : Ext w12, u.w.cell? ⟨sz + 1, 3, none⟩ = some (.int .i64 mb) := fun u => u.cell (cell_of b1 3)
  have e8 : ∀ u : Ext w12, u.w.cell? ⟨sz + 1 + 1, 0, none⟩ = some (.bool kc) := fun u => u.cell (cell_of b2 0)
  have e9 : ∀ u : Ext w12, u.w.cell? ⟨sz + 1 + 1, 1, none⟩ = some (.slice gc nc cc) := fun u => u.cell (cell_of b2 1)
  have e10 : ∀ u : Ext w12, u.w.cell? ⟨sz + 1 + 1, 2, none⟩ = some (.bool lc) := fun u => u.cell (cell_of b2 2)
  have e11 : ∀ u : Ext w12, u.w.cell? ⟨sz + 1 + 1, 3, none⟩ = some (.int .i64 mc) := fun u => u.cell (cell_of b2 3)
  have e12 : ∀ u : Ext w12, u.w.cell? ⟨p, 0, none⟩ = some (.bool kz) := fun u => u.cell (cell_of b3 0)
  have e13 : ∀ u : Ext w12, u.w.cell? ⟨p, 1, none⟩ = some (.slice gz nz cz) := fun u => u.cell (cell_of b3 1)
  have e14 : ∀ u : Ext w12, u.w.cell? ⟨p, 2, none⟩ = some (.bool lz) := fun u => u.cell (cell_of b3 2)
  have e15 : ∀ u : Ext w12, u.w.cell? ⟨p, 3, none⟩ = some (.int .i64 mz) := fun u => u.cell (cell_of b3 3)
  have e16 : ∀ u : Ext w12, u.w.cell? ⟨p + 1, 0, none⟩ = some (.bool ko) := fun u => u.cell (cell_of b4 0)
  have e17 : ∀ u : Ext w12, u.w.cell? ⟨p + 1, 1, none⟩ = some (.slice go no co) := fun u => u.cell (cell_of b4 1)
  have e18 : ∀ u : Ext w12, u.w.cell? ⟨p + 1, 2, none⟩ = some (.bool lo) := fun u => u.cell (cell_of b4 2)
  have e19 : ∀ u : Ext w12, u.w.cell? ⟨p + 1, 3, none⟩ = some (.int .i64 mo) := fun u => u.cell (cell_of b4 3)
  refine wp_region_seg_all [4, 8, 12, 19, 24, 30, 34, 38, 45, 50, 57, 62] [] [0, 1, 2, 3, 4, 5, 6, 7, 8, 9, 10, 11, 12, 13, 14, 15, 16, 17, 18, 19, 20, 21, 22, 23, 24, 25, 26, 27, 28, 29, 30, 31, 32, 33, 34, 35, 36, 37, 38, 39, 40, 41, 42, 43, 44, 45, 46, 47, 48, 49, 50, 51, 52, 53, 54, 55, 56, 57, 58, 59, 60, 61, 62, 63, 64] (by kernel_rfl) (by kernel_rfl) ?_
  refine seg_plain rfl rfl rfl rfl rfl ?_
  intro K' hK'
  go_big_quiet_op
  go_big_quiet_on
  refine seg_plain rfl rfl rfl rfl rfl ?_
  intro K' hK'
  go_big_quiet_op
  go_big_quiet_on
  refine seg_plain rfl rfl rfl rfl rfl ?_
  intro K' hK'
  go_big_quiet_op
  go_big_quiet_on
  refine seg_plain rfl rfl rfl rfl rfl ?_
  intro K' hK'
  go_big_quiet_op
  go_big_quiet_on
  refine seg_callO (fun v : Value => v) (fun v u => Rep 2 u v (mul x y)) (fun _ => []) rfl rfl rfl rfl (fun _ _ _ h hu => R.stable _ _ _ _ _ h hu) (fun _ => List.nodup_nil) (fun w => by go_simp) (fun w hu hd => (R.hm 1 1 w _ _ _ _ (by decide) (R.stable _ _ _ _ _ ha hu) (R.stable _ _ _ _ _ hb hu)).mono fun e w' ⟨v, h1, h2, h3⟩ => ⟨v, h1, h2, h3, fun b hb => by cases hb⟩) ?_
  intro v1
  simp only [Act.put, List.setIfInBounds_toArray, List.set_cons_zero, List.set_cons_succ]
  refine seg_plain rfl rfl rfl rfl rfl ?_
  intro K' hK'
  go_big_quiet_op
  go_big_quiet_on
  refine seg_plain rfl rfl rfl rfl rfl ?_
  intro K' hK'
  go_big_quiet_op
  go_big_quiet_on
  refine seg_plain rfl rfl rfl rfl rfl ?_
  intro K' hK'
  go_big_quiet_op
  go_big_quiet_on
  refine seg_callO (fun v : Value => v) (fun v u => Rep 2 u v (mul y x)) (fun _ => []) rfl rfl rfl rfl (fun _ _ _ h hu => R.stable _ _ _ _ _ h hu) (fun _ => List.nodup_nil) (fun w => by go_simp) (fun w hu hd => (R.hm 1 1 w _ _ _ _ (by decide) (R.stable _ _ _ _ _ hb hu) (R.stable _ _ _ _ _ ha hu)).mono fun e w' ⟨v, h1, h2, h3⟩ => ⟨v, h1, h2, h3, fun b hb => by cases hb⟩) ?_
  intro v2
  simp only [Act.put, List.setIfInBounds_toArray, List.set_cons_zero, List.set_cons_succ]
  refine seg_plain rfl rfl rfl rfl rfl ?_
  intro K' hK'
  go_big_quiet_op
  go_big_quiet_on
  refine seg_plain rfl rfl rfl rfl rfl ?_
  intro K' hK'
  go_big_quiet_op
  go_big_quiet_on
  refine seg_plain rfl rfl rfl rfl rfl ?_
  intro K' hK'
  go_big_quiet_op
  go_big_quiet_on
  refine seg_call (v := .bool true) rfl rfl rfl rfl (fun w => by go_simp) (fun w hu hd => R.hs 2 2 w _ _ _ _ (by decide) (hd.2.1 (by kernel_rfl)) (hd.1 (by kernel_rfl)) (R.mulc x y)) ?_
  simp only [Act.put, List.setIfInBounds_toArray, List.set_cons_zero, List.set_cons_succ]
  refine seg_plain rfl rfl rfl rfl rfl ?_
  intro K' hK'
  go_big_quiet_op
  go_big_quiet_on
  refine seg_plain rfl rfl rfl rfl rfl ?_
  intro K' hK'
  go_big_quiet_op
  go_big_quiet_on
  refine seg_plain rfl rfl rfl rfl rfl ?_
  intro K' hK'
  go_big_quiet_op
  go_big_quiet_on
  refine seg_plain rfl rfl rfl rfl rfl ?_
  intro K' hK'
  go_big_quiet_op
  go_big_quiet_on
  refine seg_plain rfl rfl rfl rfl rfl ?_
  intro K' hK'
  go_big_quiet_op
  go_big_quiet_on
  refine seg_plain rfl rfl rfl rfl rfl ?_
  intro K' hK'
  go_big_quiet_op
  go_big_quiet_on
  refine seg_callO (fun v : Value => v) (fun v u => Rep 2 u v (mul x y)) (fun _ => []) rfl rfl rfl rfl (fun _ _ _ h hu => R.stable _ _ _ _ _ h hu) (fun _ => List.nodup_nil) (fun w => by go_simp) (fun w hu hd => (R.hm 1 1 w _ _ _ _ (by decide) (R.stable _ _ _ _ _ ha hu) (R.stable _ _ _ _ _ hb hu)).mono fun e w' ⟨v, h1, h2, h3⟩ => ⟨v, h1, h2, h3, fun b hb => by cases hb⟩) ?_
  intro v3
  simp only [Act.put, List.setIfInBounds_toArray, List.set_cons_zero, List.set_cons_succ]
  refine seg_plain rfl rfl rfl rfl rfl ?_
  intro K' hK'
  go_big_quiet_op
  go_big_quiet_on
  refine seg_plain rfl rfl rfl rfl rfl ?_
  intro K' hK'
  go_big_quiet_op
  go_big_quiet_on
  refine seg_plain rfl rfl rfl rfl rfl ?_
  intro K' hK'
  go_big_quiet_op
  go_big_quiet_on
  refine seg_plain rfl rfl rfl rfl rfl ?_
  intro K' hK'
  go_big_quiet_op
  go_big_quiet_on
  refine seg_callO (fun v : Value => v) (fun v u => Rep 3 u v (mul (mul x y) t)) (fun _ => []) rfl rfl rfl rfl (fun _ _ _ h hu => R.stable _ _ _ _ _ h hu) (fun _ => List.nodup_nil) (fun w => by go_simp) (fun w hu hd => (R.hm 2 1 w _ _ _ _ (by decide) (hd.1 (by kernel_rfl)) (R.stable _ _ _ _ _ hc hu)).mono fun e w' ⟨v, h1, h2, h3⟩ => ⟨v, h1, h2, h3, fun b hb => by cases hb⟩) ?_
  intro v4
  simp only [Act.put, List.setIfInBounds_toArray, List.set_cons_zero, List.set_cons_succ]
  refine seg_plain rfl rfl rfl rfl rfl ?_
  intro K' hK'
  go_big_quiet_op
  go_big_quiet_on
  refine seg_plain rfl rfl rfl rfl rfl ?_
  intro K' hK'
  go_big_quiet_op
  go_big_quiet_on
  refine seg_plain rfl rfl rfl rfl rfl ?_
  intro K' hK'
  go_big_quiet_op
  go_big_quiet_on
  refine seg_plain rfl rfl rfl rfl rfl ?_
  intro K' hK'
  go_big_quiet_op
  go_big_quiet_on
  refine seg_plain rfl rfl rfl rfl rfl ?_
  intro K' hK'
  go_big_quiet_op
  go_big_quiet_on
  refine seg_callO (fun v : Value => v) (fun v u => Rep 2 u v (mul y t)) (fun _ => []) rfl rfl rfl rfl (fun _ _ _ h hu => R.stable _ _ _ _ _ h hu) (fun _ => List.nodup_nil) (fun w => by go_simp) (fun w hu hd => (R.hm 1 1 w _ _ _ _ (by decide) (R.stable _ _ _ _ _ hb hu) (R.stable _ _ _ _ _ hc hu)).mono fun e w' ⟨v, h1, h2, h3⟩ => ⟨v, h1, h2, h3, fun b hb => by cases hb⟩) ?_
  intro v5
  simp only [Act.put, List.setIfInBounds_toArray, List.set_cons_zero, List.set_cons_succ]
  refine seg_plain rfl rfl rfl rfl rfl ?_
  intro K' hK'
  go_big_quiet_op
  go_big_quiet_on
  refine seg_plain rfl rfl rfl rfl rfl ?_
  intro K' hK'
  go_big_quiet_op
  go_big_quiet_on
  refine seg_plain rfl rfl rfl rfl rfl ?_
  intro K' hK'
  go_big_quiet_op
  go_big_quiet_on
  refine seg_callO (fun v : Value => v) (fun v u => Rep 3 u v (mul x (mul y t))) (fun _ => []) rfl rfl rfl rfl (fun _ _ _ h hu => R.stable _ _ _ _ _ h hu) (fun _ => List.nodup_nil) (fun w => by go_simp) (fun w hu hd => (R.hm 1 2 w _ _ _ _ (by decide) (R.stable _ _ _ _ _ ha hu) (hd.1 (by kernel_rfl))).mono fun e w' ⟨v, h1, h2, h3⟩ => ⟨v, h1, h2, h3, fun b hb => by cases hb⟩) ?_
  intro v6
  simp only [Act.put, List.setIfInBounds_toArray, List.set_cons_zero, List.set_cons_succ]
  refine seg_plain rfl rfl rfl rfl rfl ?_
  intro K' hK'
  go_big_quiet_op
  go_big_quiet_on
  refine seg_plain rfl rfl rfl rfl rfl ?_
  intro K' hK'
  go_big_quiet_op
  go_big_quiet_on
  refine seg_plain rfl rfl rfl rfl rfl ?_
  intro K' hK'
  go_big_quiet_op
  go_big_quiet_on
  refine seg_call (v := .bool true) rfl rfl rfl rfl (fun w => by go_simp) (fun w hu hd => R.hs 3 3 w _ _ _ _ (by decide) (hd.2.2.1 (by kernel_rfl)) (hd.1 (by kernel_rfl)) (R.mula x y t)) ?_
  simp only [Act.put, List.setIfInBounds_toArray, List.set_cons_zero, List.set_cons_succ]
  refine seg_plain rfl rfl rfl rfl rfl ?_
  intro K' hK'
  go_big_quiet_op
  go_big_quiet_on
  refine seg_plain rfl rfl rfl rfl rfl ?_
  intro K' hK'
  go_big_quiet_op
  go_big_quiet_on
  refine seg_plain rfl rfl rfl rfl rfl ?_
  intro K' hK'
  go_big_quiet_op
  go_big_quiet_on
  refine seg_plain rfl rfl rfl rfl rfl ?_
  intro K' hK'
  go_big_quiet_op
  go_big_quiet_on
  refine seg_plain rfl rfl rfl rfl rfl ?_
  intro K' hK'
  go_big_quiet_op
  go_big_quiet_on
  refine seg_plain rfl rfl rfl rfl rfl ?_
  intro K' hK'
  go_big_quiet_op
  go_big_quiet_on
  refine seg_callO (fun v : Value => v) (fun v u => Rep 2 u v (mul x o)) (fun _ => []) rfl rfl rfl rfl (fun _ _ _ h hu => R.stable _ _ _ _ _ h hu) (fun _ => List.nodup_nil) (fun w => by go_simp) (fun w hu hd => (R.hm 1 1 w _ _ _ _ (by decide) (R.stable _ _ _ _ _ ha hu) (R.stable _ _ _ _ _ ho hu)).mono fun e w' ⟨v, h1, h2, h3⟩ => ⟨v, h1, h2, h3, fun b hb => by cases hb⟩) ?_
  intro v7
  simp only [Act.put, List.setIfInBounds_toArray, List.set_cons_zero, List.set_cons_succ]
  refine seg_plain rfl rfl rfl rfl rfl ?_
  intro K' hK'
  go_big_quiet_op
  go_big_quiet_on
  refine seg_plain rfl rfl rfl rfl rfl ?_
  intro K' hK'
  go_big_quiet_op
  go_big_quiet_on
  refine seg_plain rfl rfl rfl rfl rfl ?_
  intro K' hK'
  go_big_quiet_op
  go_big_quiet_on
  refine seg_plain rfl rfl rfl rfl rfl ?_
  intro K' hK'
  go_big_quiet_op
  go_big_quiet_on
  refine seg_call (v := .bool true) rfl rfl rfl rfl (fun w => by go_simp) (fun w hu hd => R.hs 2 1 w _ _ _ _ (by decide) (hd.1 (by kernel_rfl)) (R.stable _ _ _ _ _ ha hu) (R.mulo x)) ?_
  simp only [Act.put, List.setIfInBounds_toArray, List.set_cons_zero, List.set_cons_succ]
  refine seg_plain rfl rfl rfl rfl rfl ?_
  intro K' hK'
  go_big_quiet_op
  go_big_quiet_on
  refine seg_plain rfl rfl rfl rfl rfl ?_
  intro K' hK'
  go_big_quiet_op
  go_big_quiet_on
  refine seg_plain rfl rfl rfl rfl rfl ?_
  intro K' hK'
  go_big_quiet_op
  go_big_quiet_on
  refine seg_plain rfl rfl rfl rfl rfl ?_
  intro K' hK'
  go_big_quiet_op
  go_big_quiet_on
  refine seg_plain rfl rfl rfl rfl rfl ?_
  intro K' hK'
  go_big_quiet_op
  go_big_quiet_on
  refine seg_plain rfl rfl rfl rfl rfl ?_
  intro K' hK'
  go_big_quiet_op
  go_big_quiet_on
  refine seg_callO (fun v : Value => v) (fun v u => Rep 2 u v (mul x z)) (fun _ => []) rfl rfl rfl rfl (fun _ _ _ h hu => R.stable _ _ _ _ _ h hu) (fun _ => List.nodup_nil) (fun w => by go_simp) (fun w hu hd => (R.hm 1 1 w _ _ _ _ (by decide) (R.stable _ _ _ _ _ ha hu) (R.stable _ _ _ _ _ hz hu)).mono fun e w' ⟨v, h1, h2, h3⟩ => ⟨v, h1, h2, h3, fun b hb => by cases hb⟩) ?_
  intro v8
  simp only [Act.put, List.setIfInBounds_toArray, List.set_cons_zero, List.set_cons_succ]
  refine seg_plain rfl rfl rfl rfl rfl ?_
  intro K' hK'
  go_big_quiet_op
  go_big_quiet_on
  refine seg_plain rfl rfl rfl rfl rfl ?_
  intro K' hK'
  go_big_quiet_op
  go_big_quiet_on
  refine seg_plain rfl rfl rfl rfl rfl ?_
  intro K' hK'
  go_big_quiet_op
  go_big_quiet_on
  refine seg_plain rfl rfl rfl rfl rfl ?_
  intro K' hK'
  go_big_quiet_op
  go_big_quiet_on
  refine seg_call (v := .bool true) rfl rfl rfl rfl (fun w => by go_simp) (fun w hu hd => R.hs 2 1 w _ _ _ _ (by decide) (hd.1 (by kernel_rfl)) (R.stable _ _ _ _ _ hz hu) (R.mulz x)) ?_
  simp only [Act.put, List.setIfInBounds_toArray, List.set_cons_zero, List.set_cons_succ]
  refine seg_plain rfl rfl rfl rfl rfl ?_
  intro K' hK'
  go_big_quiet_op
  go_big_quiet_on
  refine seg_plain rfl rfl rfl rfl rfl ?_
  intro K' hK'
  go_big_quiet_op
  go_big_quiet_on
  intro w13 hg
  have hv := hg.up
  clear hg e0 e1 e2 e3 e4 e5 e6 e7 e8 e9 e10 e11 e12 e13 e14 e15 e16 e17 e18 e19
  replace b0 := hv.at b0 (by simp)
  replace b1 := hv.at b1 (by simp)
  replace b2 := hv.at b2 (by simp)
  replace b3 := hv.at b3 (by simp)
  replace b4 := hv.at b4 (by simp)
  replace ha := R.stable _ _ _ _ _ ha hv
  replace hb := R.stable _ _ _ _ _ hb hv
  replace hc := R.stable _ _ _ _ _ hc hv
  replace hz := R.stable _ _ _ _ _ hz hv
  replace ho := R.stable _ _ _ _ _ ho hv
  replace hu := hu.trans_ext hv
  clear hv
  go_upto_region 4 with fail
  have e0 : ∀ u : Ext w13, u.w.cell? ⟨sz, 0, none⟩ = some (.bool ka) := fun u => u.cell (cell_of b0 0)
  have e1 : ∀ u : Ext w13, u.w.cell? ⟨sz, 1, none⟩ = some (.slice ga na ca) := fun u => u.cell (cell_of b0 1)
  have e2 : ∀ u : Ext w13, u.w.cell? ⟨sz, 2, none⟩ = some (.bool la) := fun u => u.cell (cell_of b0 2)
  have e3 : ∀ u : Ext w13, u.w.cell? ⟨sz, 3, none⟩ = some (.int .i64 ma) := fun u => u.cell (cell_of b0 3)
  have e4 : ∀ u : Ext w13, u.w.cell? ⟨sz + 1, 0, none⟩ = some (.bool kb) := fun u => u.cell (cell_of b1 0)
  have e5 : ∀ u : Ext w13, u.w.cell? ⟨sz + 1, 1, none⟩ = some (.slice gb nb cb) := fun u => u.cell (cell_of b1 1)
  have e6 : ∀ u : Ext w13, u.w.cell? ⟨sz + 1, 2, none⟩ = some (.bool lb) := fun u => u.cell (cell_of b1 2)
  have e7 : ∀ u : Ext w13, u.w.cell? ⟨sz + 1, 3, none⟩ = some (.int .i64 mb) := fun u => u.cell (cell_of b1 3)
  have e8 : ∀ u : Ext w13, u.w.cell? ⟨sz + 1 + 1, 0, none⟩ = some (.bool kc) := fun u => u.cell (cell_of b2 0)
  have e9 : ∀ u : Ext w13, u.w.cell? ⟨sz + 1 + 1, 1, none⟩ = some (.slice gc nc cc) := fun u => u.cell (cell_of b2 1)
  have e10 : ∀ u : Ext w13, u.w.cell? ⟨sz + 1 + 1, 2, none⟩ = some (.bool lc) := fun u => u.cell (cell_of b2 2)
  have e11 : ∀ u : Ext w13, u.w.cell? ⟨sz + 1 + 1, 3, none⟩ = some (.int .i64 mc) := fun u => u.cell (cell_of b2 3)
  have e12 : ∀ u : Ext w13, u.w.cell? ⟨p, 0, none⟩ = some (.bool kz) := fun u => u.cell (cell_of b3 0)
  have e13 : ∀ u : Ext w13, u.w.cell? ⟨p, 1, none⟩ = some (.slice gz nz cz) := fun u => u.cell (cell_of b3 1)
  have e14 : ∀ u : Ext w13, u.w.cell? ⟨p, 2, none⟩ = some (.bool lz) := fun u => u.cell (cell_of b3 2)
  have e15 : ∀ u : Ext w13, u.w.cell? ⟨p, 3, none⟩ = some (.int .i64 mz) := fun u => u.cell (cell_of b3 3)
  have e16 : ∀ u : Ext w13, u.w.cell? ⟨p + 1, 0, none⟩ = some (.bool ko) := fun u => u.cell (cell_of b4 0)
  have e17 : ∀ u : Ext w13, u.w.cell? ⟨p + 1, 1, none⟩ = some (.slice go no co) := fun u => u.cell (cell_of b4 1)
  have e18 : ∀ u : Ext w13, u.w.cell? ⟨p + 1, 2, none⟩ = some (.bool lo) := fun u => u.cell (cell_of b4 2)
  have e19 : ∀ u : Ext w13, u.w.cell? ⟨p + 1, 3, none⟩ = some (.int .i64 mo) := fun u => u.cell (cell_of b4 3)
  refine wp_region_seg_all [11, 15, 20, 24, 28, 32, 38] [] [0, 1, 2, 3, 4, 5, 6, 7, 8, 9, 10, 11, 12, 13, 14, 15, 16, 17, 18, 19, 20, 21, 22, 23, 24, 25, 26, 27, 28, 29, 30, 31, 32, 33, 34, 35, 36, 37, 38, 39, 40] (by kernel_rfl) (by kernel_rfl) ?_
  refine seg_plain rfl rfl rfl rfl rfl ?_
  intro K' hK'
  go_big_quiet_op
  go_big_quiet_on
  refine seg_plain rfl rfl rfl rfl rfl ?_
  intro K' hK'
  go_big_quiet_op
  go_big_quiet_on
  refine seg_plain rfl rfl rfl rfl rfl ?_
  intro K' hK'
  go_big_quiet_op
  go_big_quiet_on
  refine seg_plain rfl rfl rfl rfl rfl ?_
  intro K' hK'
  go_big_quiet_op
  go_big_quiet_on
  refine seg_plain rfl rfl rfl rfl rfl ?_
  intro K' hK'
  go_big_quiet_op
  go_big_quiet_on
  refine seg_plain rfl rfl rfl rfl rfl ?_
  intro K' hK'
  go_big_quiet_op
  go_big_quiet_on
  refine seg_plain rfl rfl rfl rfl rfl ?_
  intro K' hK'
  go_big_quiet_op
  go_big_quiet_on
  refine seg_plain rfl rfl rfl rfl rfl ?_
  intro K' hK'
  go_big_quiet_op
  go_big_quiet_on
  refine seg_plain rfl rfl rfl rfl rfl ?_
  intro K' hK'
  go_big_quiet_op
  go_big_quiet_on
  refine seg_plain rfl rfl rfl rfl rfl ?_
  intro K' hK'
  go_big_quiet_op
  go_big_quiet_on
  refine seg_plain rfl rfl rfl rfl rfl ?_
  intro K' hK'
  go_big_quiet_op
  go_big_quiet_on
  refine seg_callO (fun v : Value => v) (fun v u => Rep 2 u v (add y t)) (fun _ => []) rfl rfl rfl rfl (fun _ _ _ h hu => R.stable _ _ _ _ _ h hu) (fun _ => List.nodup_nil) (fun w => by go_simp) (fun w hu hd => (R.ha 1 1 w _ _ _ _ (by decide) (R.stable _ _ _ _ _ hb hu) (R.stable _ _ _ _ _ hc hu)).mono fun e w' ⟨v, h1, h2, h3⟩ => ⟨v, h1, h2, h3, fun b hb => by cases hb⟩) ?_
  intro v1
  simp only [Act.put, List.setIfInBounds_toArray, List.set_cons_zero, List.set_cons_succ]
  refine seg_plain rfl rfl rfl rfl rfl ?_
  intro K' hK'
  go_big_quiet_op
  go_big_quiet_on
  refine seg_plain rfl rfl rfl rfl rfl ?_
  intro K' hK'
  go_big_quiet_op
  go_big_quiet_on
  refine seg_plain rfl rfl rfl rfl rfl ?_
  intro K' hK'
  go_big_quiet_op
  go_big_quiet_on
  refine seg_callO (fun v : Value => v) (fun v u => Rep 3 u v (mul x (add y t))) (fun _ => []) rfl rfl rfl rfl (fun _ _ _ h hu => R.stable _ _ _ _ _ h hu) (fun _ => List.nodup_nil) (fun w => by go_simp) (fun w hu hd => (R.hm 1 2 w _ _ _ _ (by decide) (R.stable _ _ _ _ _ ha hu) (hd.1 (by kernel_rfl))).mono fun e w' ⟨v, h1, h2, h3⟩ => ⟨v, h1, h2, h3, fun b hb => by cases hb⟩) ?_
  intro v2
  simp only [Act.put, List.setIfInBounds_toArray, List.set_cons_zero, List.set_cons_succ]
  refine seg_plain rfl rfl rfl rfl rfl ?_
  intro K' hK'
  go_big_quiet_op
  go_big_quiet_on
  refine seg_plain rfl rfl rfl rfl rfl ?_
  intro K' hK'
  go_big_quiet_op
  go_big_quiet_on
  refine seg_plain rfl rfl rfl rfl rfl ?_
  intro K' hK'
  go_big_quiet_op
  go_big_quiet_on
  refine seg_plain rfl rfl rfl rfl rfl ?_
  intro K' hK'
  go_big_quiet_op
  go_big_quiet_on
  refine seg_callO (fun v : Value => v) (fun v u => Rep 2 u v (mul x y)) (fun _ => []) rfl rfl rfl rfl (fun _ _ _ h hu => R.stable _ _ _ _ _ h hu) (fun _ => List.nodup_nil) (fun w => by go_simp) (fun w hu hd => (R.hm 1 1 w _ _ _ _ (by decide) (R.stable _ _ _ _ _ ha hu) (R.stable _ _ _ _ _ hb hu)).mono fun e w' ⟨v, h1, h2, h3⟩ => ⟨v, h1, h2, h3, fun b hb => by cases hb⟩) ?_
  intro v3
  simp only [Act.put, List.setIfInBounds_toArray, List.set_cons_zero, List.set_cons_succ]
  refine seg_plain rfl rfl rfl rfl rfl ?_
  intro K' hK'
  go_big_quiet_op
  go_big_quiet_on
  refine seg_plain rfl rfl rfl rfl rfl ?_
  intro K' hK'
  go_big_quiet_op
  go_big_quiet_on
  refine seg_plain rfl rfl rfl rfl rfl ?_
  intro K' hK'
  go_big_quiet_op
  go_big_quiet_on
  refine seg_callO (fun v : Value => v) (fun v u => Rep 2 u v (mul x t)) (fun _ => []) rfl rfl rfl rfl (fun _ _ _ h hu => R.stable _ _ _ _ _ h hu) (fun _ => List.nodup_nil) (fun w => by go_simp) (fun w hu hd => (R.hm 1 1 w _ _ _ _ (by decide) (R.stable _ _ _ _ _ ha hu) (R.stable _ _ _ _ _ hc hu)).mono fun e w' ⟨v, h1, h2, h3⟩ => ⟨v, h1, h2, h3, fun b hb => by cases hb⟩) ?_
  intro v4
  simp only [Act.put, List.setIfInBounds_toArray, List.set_cons_zero, List.set_cons_succ]
  refine seg_plain rfl rfl rfl rfl rfl ?_
  intro K' hK'
  go_big_quiet_op
  go_big_quiet_on
  refine seg_plain rfl rfl rfl rfl rfl ?_
  intro K' hK'
  go_big_quiet_op
  go_big_quiet_on
  refine seg_plain rfl rfl rfl rfl rfl ?_
  intro K' hK'
  go_big_quiet_op
  go_big_quiet_on
  refine seg_callO (fun v : Value => v) (fun v u => Rep 4 u v (add (mul x y) (mul x t))) (fun _ => []) rfl rfl rfl rfl (fun _ _ _ h hu => R.stable _ _ _ _ _ h hu) (fun _ => List.nodup_nil) (fun w => by go_simp) (fun w hu hd => (R.ha 2 2 w _ _ _ _ (by decide) (hd.2.1 (by kernel_rfl)) (hd.1 (by kernel_rfl))).mono fun e w' ⟨v, h1, h2, h3⟩ => ⟨v, h1, h2, h3, fun b hb => by cases hb⟩) ?_
  intro v5
  simp only [Act.put, List.setIfInBounds_toArray, List.set_cons_zero, List.set_cons_succ]
  refine seg_plain rfl rfl rfl rfl rfl ?_
  intro K' hK'
  go_big_quiet_op
  go_big_quiet_on
  refine seg_plain rfl rfl rfl rfl rfl ?_
  intro K' hK'
  go_big_quiet_op
  go_big_quiet_on
  refine seg_plain rfl rfl rfl rfl rfl ?_
  intro K' hK'
  go_big_quiet_op
  go_big_quiet_on
  refine seg_call (v := .bool true) rfl rfl rfl rfl (fun w => by go_simp) (fun w hu hd => R.hs 3 4 w _ _ _ _ (by decide) (hd.2.2.2.1 (by kernel_rfl)) (hd.1 (by kernel_rfl)) (R.dist x y t)) ?_
  simp only [Act.put, List.setIfInBounds_toArray, List.set_cons_zero, List.set_cons_succ]
  refine seg_plain rfl rfl rfl rfl rfl ?_
  intro K' hK'
  go_big_quiet_op
  go_big_quiet_on
  refine seg_plain rfl rfl rfl rfl rfl ?_
  intro K' hK'
  go_big_quiet_op
  go_big_quiet_on
  refine seg_plain rfl rfl rfl rfl rfl ?_
  intro K' hK'
  go_big_quiet_op
  go_big_quiet_on
  refine seg_plain rfl rfl rfl rfl rfl ?_
  intro K' hK'
  go_big_quiet_op
  go_big_quiet_on
  refine seg_plain rfl rfl rfl rfl rfl ?_
  intro K' hK'
  go_big_quiet_op
  go_big_quiet_on
  refine seg_call (v := .bool true) rfl rfl rfl rfl (fun w => by go_simp) (fun w hu hd => R.hs 1 1 w _ _ _ _ (by decide) (R.stable _ _ _ _ _ ha hu) (R.stable _ _ _ _ _ ha hu) (rfl)) ?_
  simp only [Act.put, List.setIfInBounds_toArray, List.set_cons_zero, List.set_cons_succ]
  refine seg_plain rfl rfl rfl rfl rfl ?_
  intro K' hK'
  go_big_quiet_op
  go_big_quiet_on
  refine seg_plain rfl rfl rfl rfl rfl ?_
  intro K' hK'
  go_big_quiet_op
  go_big_quiet_on
  intro w14 hg
  have hv := hg.up
  clear hg e0 e1 e2 e3 e4 e5 e6 e7 e8 e9 e10 e11 e12 e13 e14 e15 e16 e17 e18 e19
  replace b0 := hv.at b0 (by simp)
  replace b1 := hv.at b1 (by simp)
  replace b2 := hv.at b2 (by simp)
  replace b3 := hv.at b3 (by simp)
  replace b4 := hv.at b4 (by simp)
  replace ha := R.stable _ _ _ _ _ ha hv
  replace hb := R.stable _ _ _ _ _ hb hv
  replace hc := R.stable _ _ _ _ _ hc hv
  replace hz := R.stable _ _ _ _ _ hz hv
  replace ho := R.stable _ _ _ _ _ ho hv
  replace hu := hu.trans_ext hv
  clear hv
  go_wp2
  go_ret
  exact ⟨rfl, hu⟩
end Go.Proofs.YtifellalnojomaaDoor
