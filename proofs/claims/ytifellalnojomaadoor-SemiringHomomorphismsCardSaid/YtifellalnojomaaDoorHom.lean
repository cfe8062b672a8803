/- SemiringHomomorphisms: the numbers. -/
import Derived.Test.YtifellalnojomaaDoorNatW
import Derived.Test.YtifellalnojomaaDoorTrop
import Derived.Test.YtifellalnojomaaDoorBoolM
import Derived.Test.YtifellalnojomaaDoorSeg
import Derived.Deep.RegionHeld3
import Derived.Deep.DeepCutAuto
import Derived.Deep.CutBlock
namespace Go.Proofs.YtifellalnojomaaDoor
open Go.RowKit Go.PL Go.Maps

theorem len_zero (n : Nat) : decide ((W32 n).length = 0) = decide (n = 0) := by
  rw [Bool.eq_iff_iff]
  simp only [decide_eq_true_eq, List.length_eq_zero_iff]
  exact W32_nil

theorem two (W : World) (o0 o1 : Obj) : ((W.alloc o0).alloc o1).drew.heap[W.heap.size]? = some o0 ∧ ((W.alloc o0).alloc o1).drew.heap[W.heap.size + 1]? = some o1 :=
  ⟨alloc_old (new_at W o0) o1, new_at1 W o0 o1⟩

theorem i64wrap (n : Int) : IntKind.i64.wrap n = wrap64 n := IntWalk.i64_left n

theorem wrap_of {n : Int} (h1 : -9223372036854775808 ≤ n) (h2 : n ≤ 9223372036854775807) : IntKind.i64.wrap n = n := IntWalk.i64_in n ⟨h1, h2⟩

/-- the least of two costs and the greatest of their negatives -/
theorem hom_or {k k' : Bool} {n n' : Int} (h : rightF (k, n) = true) (h' : rightF (k', n') = true) :
    (orF (k, n) (k', n') (decide (n < n'))).1 = (orF (k, IntKind.i64.wrap (-n)) (k', IntKind.i64.wrap (-n')) (decide (IntKind.i64.wrap (-n) > IntKind.i64.wrap (-n')))).1 ∧
    (orF (k, n) (k', n') (decide (n < n'))).2 = IntKind.i64.wrap (-(orF (k, IntKind.i64.wrap (-n)) (k', IntKind.i64.wrap (-n')) (decide (IntKind.i64.wrap (-n) > IntKind.i64.wrap (-n')))).2) := by
  cases k
  · cases k'
    · simp [orF, plainF]
      decide
    · simp [rightF] at h'
      rw [wrap_of (n := -n') (by omega) (by omega)]
      simp [orF]
      rw [wrap_of (by omega) (by omega)]
  · simp [rightF] at h
    rw [wrap_of (n := -n) (by omega) (by omega)]
    cases k'
    · simp [orF, plainF]
      rw [wrap_of (by omega) (by omega)]
    · simp [rightF] at h'
      rw [wrap_of (n := -n') (by omega) (by omega)]
      by_cases hlt : n < n'
      · have h2 : -n' < -n := by omega
        simp [orF, plainF, hlt]
        rw [wrap_of (by omega) (by omega)]
      · have h2 : ¬ -n' < -n := by omega
        simp [orF, plainF, hlt]
        rw [wrap_of (by omega) (by omega)]

set_option maxRecDepth 100000 in
set_option maxHeartbeats 3200000 in
theorem hom_walk (a b : Nat) (ha : a < 18446744073709551616) (hb : b < 18446744073709551616) (k : Bool) (n : Int) (k' : Bool) (n' : Int) (w : World) :
    Calls Tryd.prog 5 #[.int .u64 a, .int .u64 b, cv (k, n), cv (k', n')] w fun e w' => e = .returned (.bool true) ∧ Upto [] w w' := by
  simp only [cv]
  have HR1 := Lib.hid (right_calls (k, n))
  have HR2 := Lib.hid (right_calls (k', n'))
  have HK := Lib.hid known_calls
  simp only [cv] at HR1 HR2
  have FA := Lib.hid (fromW_calls a ha)
  have FB := Lib.hid (fromW_calls b hb)
  have b0 := alloc_old (new_at w (.cells #[.bool k, .int .i64 n] 27)) (.cells #[.bool k', .int .i64 n'] 27)
  have b1 := new_at1 w (.cells #[.bool k, .int .i64 n] 27) (.cells #[.bool k', .int .i64 n'] 27)
  have hu0 : Upto [] w ((w.alloc (.cells #[.bool k, .int .i64 n] 27)).alloc (.cells #[.bool k', .int .i64 n'] 27)) := ((Upto.refl [] w).alloc _).alloc _
  generalize hr1 : rightF (k, n) = r1 at *
  generalize hr2 : rightF (k', n') = r2 at *
  have HR1' := Lib.hid hr1
  have HR2' := Lib.hid hr2
  clear hr1 hr2
  go_enter Tryd.func5, Tryd.ntmps5
  go_wp2_with fail
  refine (HR1.out _).mono ?_
  rintro e w1 ⟨rfl, hu1⟩
  have c0 := hu1.at b0 (by simp)
  have c1 := hu1.at b1 (by simp)
  have q0 := cell_of c1 0
  have q1 := cell_of c1 1
  have hu1 := hu0.trans_ext hu1
  simp at q0 q1
  clear b0 b1 hu0
  cases r1
  · go_wp2_with fail
    refine (HK.out _).mono ?_
    rintro e w2 ⟨rfl, hu2⟩
    go_wp2
    go_ret
    exact ⟨rfl, hu1.trans_ext hu2⟩
  · go_wp2_with fail
    refine (HR2.out _).mono ?_
    rintro e w2 ⟨rfl, hu2⟩
    have d0 := hu2.at c0 (by simp)
    have d1 := hu2.at c1 (by simp)
    have hu2 := hu1.trans_ext hu2
    clear c0 c1 q0 q1 hu1 HR1 HR2
    cases r2
    · go_wp2_with fail
      refine (HK.out _).mono ?_
      rintro e w3 ⟨rfl, hu3⟩
      go_wp2
      go_ret
      exact ⟨rfl, hu2.trans_ext hu3⟩
    · generalize hsz : w.heap.size = sz at *
      go_wp2_with fail
      refine (FA.out _).mono ?_
      rintro e w3 ⟨g1, rfl, n1, hu3⟩
      replace d0 := hu3.at (alloc_old (alloc_old d0 (.cells #[] 42)) (.cells #[] 23)) (by simp)
      replace d1 := hu3.at (alloc_old (alloc_old d1 (.cells #[] 42)) (.cells #[] 23)) (by simp)
      replace hu3 := ((hu2.alloc (.cells #[] 42)).alloc (.cells #[] 23)).trans_ext hu3
      go_wp2_with fail
      refine (FB.out _).mono ?_
      rintro e w4 ⟨g2, rfl, n2, hu4⟩
      replace d0 := hu4.at d0 (by simp)
      replace d1 := hu4.at d1 (by simp)
      replace n1 := n1.ext hu4
      replace hu4 := hu3.trans_ext hu4
      have b6 := alloc_old (new_at w4 (.cells #[.slice (some ⟨g1, 0, none⟩) (W32 a).length 2] 45)) (.cells #[.slice (some ⟨g2, 0, none⟩) (W32 b).length 2] 45)
      have b7 := new_at1 w4 (.cells #[.slice (some ⟨g1, 0, none⟩) (W32 a).length 2] 45) (.cells #[.slice (some ⟨g2, 0, none⟩) (W32 b).length 2] 45)
      have hst : Upto [] w4 ((w4.alloc (.cells #[.slice (some ⟨g1, 0, none⟩) (W32 a).length 2] 45)).alloc (.cells #[.slice (some ⟨g2, 0, none⟩) (W32 b).length 2] 45)) := ((Upto.refl [] w4).alloc _).alloc _
      replace n1 := n1.ext hst
      replace n2 := n2.ext hst
      replace d0 := hst.at d0 (by simp)
      replace d1 := hst.at d1 (by simp)
      replace hu4 := hu4.trans_ext hst
      go_upto_region 5 with fail
      clear hst hu2 hu3 FA FB
      generalize (w4.alloc (.cells #[.slice (some ⟨g1, 0, none⟩) (W32 a).length 2] 45)).alloc (.cells #[.slice (some ⟨g2, 0, none⟩) (W32 b).length 2] 45) = W at *
      generalize w4.heap.size = p6 at *
      generalize w2.heap.size = p9 at *
      have hla := W32_len ha
      have hlb := W32_len hb
      have m0 := cell_of b6 0
      have m1 := cell_of b7 0
      simp at m0 m1
      have HC0 : Hid (∀ u, Upto [] W u → u.cell? ⟨p6, 0, none⟩ = some (.slice (some ⟨g1, 0, none⟩) (W32 a).length 2)) := fun u hu => (hu.cell (p := ⟨p6, 0, none⟩) (World.block_lt_of_cell? W _ m0) (by simp)).trans m0
      have HC1 : Hid (∀ u, Upto [] W u → u.cell? ⟨p6 + 1, 0, none⟩ = some (.slice (some ⟨g2, 0, none⟩) (W32 b).length 2)) := fun u hu => (hu.cell (p := ⟨p6 + 1, 0, none⟩) (World.block_lt_of_cell? W _ m1) (by simp)).trans m1
      have hW0 := Upto.refl [] W
      have hWd : Upto [] W W.drew := hW0.drew
      obtain ⟨za, hza⟩ : ∃ z, z = decide (a = 0) := ⟨_, rfl⟩
      obtain ⟨zb, hzb⟩ : ∃ z, z = decide (b = 0) := ⟨_, rfl⟩
      have hzs : decide (a + b = 0) = (za && zb) := by
        rw [hza, hzb, Bool.eq_iff_iff]
        simp
      have hzm : decide (a * b = 0) = (za || zb) := by
        rw [hza, hzb, Bool.eq_iff_iff]
        simp only [decide_eq_true_eq, Bool.or_eq_true]
        exact Nat.mul_eq_zero
      have AS : Hid (∀ u, Upto [] W u → Calls Tryd.prog 34 #[.agg #[], .agg #[.slice (some ⟨g1, 0, none⟩) (W32 a).length 2], .agg #[.slice (some ⟨g2, 0, none⟩) (W32 b).length 2]] u fun e w' => ∃ g c, e = .returned (.agg #[.slice (some ⟨g, 0, none⟩) (W32 (a + b)).length c]) ∧ Upto [] W w') := fun u hu =>
        (nadd_calls a b _ _ _ _ u (n1.ext hu) (n2.ext hu) (by omega) (by omega)).mono fun e w' ⟨g, c, h1, _, h3⟩ => ⟨g, c, h1, hu.trans_ext h3⟩
      have AM : Hid (∀ u, Upto [] W u → Calls Tryd.prog 36 #[.agg #[], .agg #[.slice (some ⟨g1, 0, none⟩) (W32 a).length 2], .agg #[.slice (some ⟨g2, 0, none⟩) (W32 b).length 2]] u fun e w' => ∃ g c, e = .returned (.agg #[.slice (some ⟨g, 0, none⟩) (W32 (a * b)).length c]) ∧ Upto [] W w') := fun u hu =>
        (nmul_calls a b _ _ _ _ u (n1.ext hu) (n2.ext hu) (by omega) (by omega)).mono fun e w' ⟨g, c, h1, _, h3⟩ => ⟨g, c, h1, hu.trans_ext h3⟩
      have IA : Hid (∀ g c u, Upto [] W u → Calls Tryd.prog 35 #[.agg #[.slice g (W32 a).length c]] u fun e w' => e = .returned (.bool za) ∧ Upto [] W w') := fun g c u hu => (isZero_calls g _ c u).mono fun e w' ⟨h1, h2⟩ => ⟨by rw [h1, len_zero, hza], hu.trans_ext h2⟩
      have IB : Hid (∀ g c u, Upto [] W u → Calls Tryd.prog 35 #[.agg #[.slice g (W32 b).length c]] u fun e w' => e = .returned (.bool zb) ∧ Upto [] W w') := fun g c u hu => (isZero_calls g _ c u).mono fun e w' ⟨h1, h2⟩ => ⟨by rw [h1, len_zero, hzb], hu.trans_ext h2⟩
      have IS : Hid (∀ g c u, Upto [] W u → Calls Tryd.prog 35 #[.agg #[.slice g (W32 (a + b)).length c]] u fun e w' => e = .returned (.bool (za && zb)) ∧ Upto [] W w') := fun g c u hu => (isZero_calls g _ c u).mono fun e w' ⟨h1, h2⟩ => ⟨by rw [h1, len_zero, hzs], hu.trans_ext h2⟩
      have IM : Hid (∀ g c u, Upto [] W u → Calls Tryd.prog 35 #[.agg #[.slice g (W32 (a * b)).length c]] u fun e w' => e = .returned (.bool (za || zb)) ∧ Upto [] W w') := fun g c u hu => (isZero_calls g _ c u).mono fun e w' ⟨h1, h2⟩ => ⟨by rw [h1, len_zero, hzm], hu.trans_ext h2⟩
      have BA : Hid (∀ x y u, Upto [] W u → Calls Tryd.prog 13 #[.agg #[], .bool x, .bool y] u fun e w' => e = .returned (.bool (x || y)) ∧ Upto [] W w') := fun x y u hu => (badd_is x y u).mono fun e w' ⟨h1, h2⟩ => ⟨h1, hu.trans_ext h2⟩
      have BM : Hid (∀ x y u, Upto [] W u → Calls Tryd.prog 14 #[.agg #[], .bool x, .bool y] u fun e w' => e = .returned (.bool (x && y)) ∧ Upto [] W w') := fun x y u hu => (bmul_is x y u).mono fun e w' ⟨h1, h2⟩ => ⟨h1, hu.trans_ext h2⟩
      clear hza hzb hzs hzm n1 n2 b6 b7
      have HLA := Lib.hid hla
      have HLB := Lib.hid hlb
      clear hla hlb ha hb
      go_cut [63] (fun v wx => v = .bool false ∧ Upto [] W wx)
      case first =>
        cases za <;> cases zb
        all_goals simp only [Bool.and_self, Bool.and_true, Bool.and_false, Bool.or_self, Bool.or_true, Bool.or_false] at IS IM
        all_goals
          go_region_held3 (fun w' => w'.cell? ⟨p6, 0, none⟩ = some (.slice (some ⟨g1, 0, none⟩) (W32 a).length 2) ∧ w'.cell? ⟨p6 + 1, 0, none⟩ = some (.slice (some ⟨g2, 0, none⟩) (W32 b).length 2))
            (exact ⟨m0, m1⟩)
            (first | (go_at_call 34; with_reducible refine (AS.out _ (by first | assumption | exact Upto.refl _ _ | exact (Upto.refl _ _).drew)).mono ?_; rintro e w5 ⟨g5, c5, rfl, h5⟩; have m0 := HC0.out _ h5; have m1 := HC1.out _ h5) | (go_at_call 35; with_reducible refine (IS.out _ _ _ (by first | assumption | exact Upto.refl _ _ | exact (Upto.refl _ _).drew)).mono ?_; rintro e w5 ⟨rfl, h5⟩; have m0 := HC0.out _ h5; have m1 := HC1.out _ h5) | (go_at_call 35; with_reducible refine (IA.out _ _ _ (by first | assumption | exact Upto.refl _ _ | exact (Upto.refl _ _).drew)).mono ?_; rintro e w5 ⟨rfl, h5⟩; have m0 := HC0.out _ h5; have m1 := HC1.out _ h5) | (go_at_call 35; with_reducible refine (IB.out _ _ _ (by first | assumption | exact Upto.refl _ _ | exact (Upto.refl _ _).drew)).mono ?_; rintro e w5 ⟨rfl, h5⟩; have m0 := HC0.out _ h5; have m1 := HC1.out _ h5) | (go_at_call 13; with_reducible refine (BA.out _ _ _ (by first | assumption | exact Upto.refl _ _ | exact (Upto.refl _ _).drew)).mono ?_; rintro e w5 ⟨rfl, h5⟩; have m0 := HC0.out _ h5; have m1 := HC1.out _ h5) | (go_at_call 36; with_reducible refine (AM.out _ (by first | assumption | exact Upto.refl _ _ | exact (Upto.refl _ _).drew)).mono ?_; rintro e w5 ⟨g5, c5, rfl, h5⟩; have m0 := HC0.out _ h5; have m1 := HC1.out _ h5) | (go_at_call 35; with_reducible refine (IM.out _ _ _ (by first | assumption | exact Upto.refl _ _ | exact (Upto.refl _ _).drew)).mono ?_; rintro e w5 ⟨rfl, h5⟩; have m0 := HC0.out _ h5; have m1 := HC1.out _ h5) | (go_at_call 14; with_reducible refine (BM.out _ _ _ (by first | assumption | exact Upto.refl _ _ | exact (Upto.refl _ _).drew)).mono ?_; rintro e w5 ⟨rfl, h5⟩; have m0 := HC0.out _ h5; have m1 := HC1.out _ h5) | fail)
        all_goals
          go_wp2_with fail
          go_meet
          exact ⟨rfl, h5⟩
      case rest =>
        obtain ⟨rfl, hux⟩ := hcut
        clear AS AM IA IB IS IM BA BM HC0 HC1 HLA HLB m0 m1
        have h0 := cell_of (hux.at d0 (by simp)) 0
        have h1 := cell_of (hux.at d0 (by simp)) 1
        have h2 := cell_of (hux.at d1 (by simp)) 0
        have h3 := cell_of (hux.at d1 (by simp)) 1
        simp only [List.getElem?_toArray, List.getElem?_cons_zero, List.getElem?_cons_succ] at h0 h1 h2 h3
        have hx : sz < wc.heap.size := World.block_lt_of_cell? wc _ h0
        have hy : sz + 1 < wc.heap.size := World.block_lt_of_cell? wc _ h2
        replace hux := hu4.trans_ext hux
        clear d0 d1 hu4 hW0 hWd
        go_upto_region 7 with fail
        generalize wc = V at *
        go_cut [13, 14] (fun t7 t8 wx => TwoAt V k (IntKind.i64.wrap (-n)) k' (IntKind.i64.wrap (-n')) t7 t8 wx)
        case first =>
          go_region_held3 (fun w' => w'.cell? ⟨sz, 0, none⟩ = some (.bool k) ∧ w'.cell? ⟨sz, 1, none⟩ = some (.int .i64 n) ∧ w'.cell? ⟨sz + 1, 0, none⟩ = some (.bool k') ∧ w'.cell? ⟨sz + 1, 1, none⟩ = some (.int .i64 n'))
            (exact ⟨(Upto.cell (S := []) (w := V) (p := ⟨sz, 0, none⟩) (by (repeat (first | exact Upto.refl _ _ | refine Upto.alloc ?_ _ | refine Upto.drew ?_ | refine Upto.setCell ?_ (Or.inr (by first | (simp; done) | (simp; omega) | (simp only []; omega))) _))) hx (by simp)).trans h0, (Upto.cell (S := []) (w := V) (p := ⟨sz, 1, none⟩) (by (repeat (first | exact Upto.refl _ _ | refine Upto.alloc ?_ _ | refine Upto.drew ?_ | refine Upto.setCell ?_ (Or.inr (by first | (simp; done) | (simp; omega) | (simp only []; omega))) _))) hx (by simp)).trans h1, (Upto.cell (S := []) (w := V) (p := ⟨sz + 1, 0, none⟩) (by (repeat (first | exact Upto.refl _ _ | refine Upto.alloc ?_ _ | refine Upto.drew ?_ | refine Upto.setCell ?_ (Or.inr (by first | (simp; done) | (simp; omega) | (simp only []; omega))) _))) hy (by simp)).trans h2, (Upto.cell (S := []) (w := V) (p := ⟨sz + 1, 1, none⟩) (by (repeat (first | exact Upto.refl _ _ | refine Upto.alloc ?_ _ | refine Upto.drew ?_ | refine Upto.setCell ?_ (Or.inr (by first | (simp; done) | (simp; omega) | (simp only []; omega))) _))) hy (by simp)).trans h3⟩)
            (fail)
          all_goals
            go_wp2_with fail
            go_meet
            refine ⟨_, _, rfl, rfl, ?_, ?_, (((Upto.refl [] V).alloc _).alloc _).drew⟩
            all_goals first | exact (two _ _ _).1 | exact (two _ _ _).2
        case rest =>
          obtain ⟨p, q, rfl, rfl, hp, hq, hux2⟩ := hcut
          have i0 := (hux2.cell (p := ⟨sz, 0, none⟩) hx (by simp)).trans h0
          have i1 := (hux2.cell (p := ⟨sz, 1, none⟩) hx (by simp)).trans h1
          have i2 := (hux2.cell (p := ⟨sz + 1, 0, none⟩) hy (by simp)).trans h2
          have i3 := (hux2.cell (p := ⟨sz + 1, 1, none⟩) hy (by simp)).trans h3
          have i4 := cell_of hp 0
          have i5 := cell_of hp 1
          have i6 := cell_of hq 0
          have i7 := cell_of hq 1
          simp only [List.getElem?_toArray, List.getElem?_cons_zero, List.getElem?_cons_succ] at i4 i5 i6 i7
          replace hux := hux.trans_ext hux2
          clear h0 h1 h2 h3 hx hy hux2 hp hq
          go_upto_region 8 with fail
          generalize wc = U at *
          have O1 := Lib.hid (own_calls k n)
          have O2 := Lib.hid (own_calls k' n')
          have A1 := Lib.hid (minAdd_calls k n k' n')
          have A2 := Lib.hid (maxAdd_calls k (IntKind.i64.wrap (-n)) k' (IntKind.i64.wrap (-n')))
          simp only [cv] at O1 O2 A1 A2
          obtain ⟨HL1, HL2⟩ := hom_or HR1'.out HR2'.out
          generalize orF (k, n) (k', n') (decide (n < n')) = r1 at *
          generalize orF (k, IntKind.i64.wrap (-n)) (k', IntKind.i64.wrap (-n')) (decide (IntKind.i64.wrap (-n) > IntKind.i64.wrap (-n'))) = r2 at *
          obtain ⟨k1, z1⟩ := r1
          obtain ⟨k2, z2⟩ := r2
          simp only at HL1
          subst HL1
          replace HL2 := Lib.hid (show z1 = IntKind.i64.wrap (-z2) from HL2)
          generalize IntKind.i64.wrap (-n) = m at *
          generalize IntKind.i64.wrap (-n') = m' at *
          have e0 : ∀ u : Ext U, u.w.cell? ⟨sz, 0, none⟩ = some (.bool k) := fun u => u.cell i0
          have e1 : ∀ u : Ext U, u.w.cell? ⟨sz, 1, none⟩ = some (.int .i64 n) := fun u => u.cell i1
          have e2 : ∀ u : Ext U, u.w.cell? ⟨sz + 1, 0, none⟩ = some (.bool k') := fun u => u.cell i2
          have e3 : ∀ u : Ext U, u.w.cell? ⟨sz + 1, 1, none⟩ = some (.int .i64 n') := fun u => u.cell i3
          have e4 : ∀ u : Ext U, u.w.cell? ⟨p, 0, none⟩ = some (.bool k) := fun u => u.cell i4
          have e5 : ∀ u : Ext U, u.w.cell? ⟨p, 1, none⟩ = some (.int .i64 m) := fun u => u.cell i5
          have e6 : ∀ u : Ext U, u.w.cell? ⟨q, 0, none⟩ = some (.bool k') := fun u => u.cell i6
          have e7 : ∀ u : Ext U, u.w.cell? ⟨q, 1, none⟩ = some (.int .i64 m') := fun u => u.cell i7
          have O1' : Hid (∀ u, Calls Tryd.prog 18 #[.agg #[.bool k, .int .i64 n]] u fun e w' => e = .returned (.agg #[.bool k, .int .i64 n]) ∧ Upto [] u w') := fun u => (O1.out u).mono fun e w' ⟨h1, h2⟩ => ⟨h1, by subst h2; repeat (first | exact Upto.refl _ _ | refine Upto.alloc ?_ _ | refine Upto.drew ?_)⟩
          have O2' : Hid (∀ u, Calls Tryd.prog 18 #[.agg #[.bool k', .int .i64 n']] u fun e w' => e = .returned (.agg #[.bool k', .int .i64 n']) ∧ Upto [] u w') := fun u => (O2.out u).mono fun e w' ⟨h1, h2⟩ => ⟨h1, by subst h2; repeat (first | exact Upto.refl _ _ | refine Upto.alloc ?_ _ | refine Upto.drew ?_)⟩
          refine wp_region_seg_at [2, 4, 5, 9] [10, 11] [0, 1, 2, 3, 4, 5, 6, 7, 8, 9, 10, 11] [12, 13] 12 (by kernel_rfl) (by kernel_rfl) (by kernel_rfl) ?_
          refine seg_plain rfl rfl rfl rfl rfl ?_
          intro K' hK'
          go_big_quiet_op
          go_big_quiet_on
          refine seg_plain rfl rfl rfl rfl rfl ?_
          intro K' hK'
          go_big_quiet_op
          go_big_quiet_on
          refine seg_call rfl rfl rfl rfl (fun w => by go_simp) (fun w _ _ => O1'.out w) ?_
          simp only [Act.put, List.setIfInBounds_toArray, List.set_cons_zero, List.set_cons_succ]
          refine seg_plain rfl rfl rfl rfl rfl ?_
          intro K' hK'
          go_big_quiet_op
          go_big_quiet_on
          refine seg_call rfl rfl rfl rfl (fun w => by go_simp) (fun w _ _ => O2'.out w) ?_
          simp only [Act.put, List.setIfInBounds_toArray, List.set_cons_zero, List.set_cons_succ]
          refine seg_call rfl rfl rfl rfl (fun w => by go_simp) (fun w _ _ => A1.out w) ?_
          simp only [Act.put, List.setIfInBounds_toArray, List.set_cons_zero, List.set_cons_succ]
          refine seg_plain rfl rfl rfl rfl rfl ?_
          intro K' hK'
          go_big_quiet_op
          go_big_quiet_on
          refine seg_plain rfl rfl rfl rfl rfl ?_
          intro K' hK'
          go_big_quiet_op
          go_big_quiet_on
          refine seg_plain rfl rfl rfl rfl rfl ?_
          intro K' hK'
          go_big_quiet_op
          go_big_quiet_on
          refine seg_call rfl rfl rfl rfl (fun w => by go_simp) (fun w _ _ => A2.out w) ?_
          simp only [Act.put, List.setIfInBounds_toArray, List.set_cons_zero, List.set_cons_succ]
          refine seg_alloc (.cells #[.bool false, .int .i64 0] 32) rfl rfl rfl (fun w => by go_simp) ?_
          intro b15
          simp only [Act.put, List.setIfInBounds_toArray, List.set_cons_zero, List.set_cons_succ]
          refine seg_alloc (.cells #[.bool false, .int .i64 0] 32) rfl rfl rfl (fun w => by go_simp) ?_
          intro b16
          simp only [Act.put, List.setIfInBounds_toArray, List.set_cons_zero, List.set_cons_succ]
          intro w9 hg
          simp only [List.drop_succ_cons, List.drop_zero]
          have h16 := hg.hold.1
          have h15 := hg.hold.2.1
          have hne : b16 ≠ b15 := by
            have := hg.nodup
            simp [ownAll] at this
            exact this
          have hux9 := hux.trans_same hg.up
          have hb15 := (hg.inb _ (List.mem_cons_of_mem _ (List.mem_cons_self ..)) b15 (by simp)).1
          have hb16 := (hg.inb _ (List.mem_cons_self ..) b16 (by simp)).1
          clear hg e0 e1 e2 e3 e4 e5 e6 e7 i0 i1 i2 i3 i4 i5 i6 i7 O1 O2 O1' O2' A1 A2
          simp only at h15 h16
          have c0 := cell_of h15 0
          have c1 := cell_of h15 1
          have c2 := cell_of h16 0
          have c3 := cell_of h16 1
          have f0 := free_of h15 0
          have f1 := free_of h15 1
          have f2 := free_of h16 0
          have f3 := free_of h16 1
          simp only [List.getElem?_toArray, List.getElem?_cons_zero, List.getElem?_cons_succ] at c0 c1 c2 c3
          go_wp2_with fail
          · refine (HK.out _).mono ?_
            rintro e w10 ⟨rfl, hv⟩
            go_wp2
            go_ret
            have hle := hux.size
            refine ⟨rfl, Upto.trans_ext ?_ hv⟩
            exact (((hux9.setCell (Or.inr (by show _ ≤ b15; omega)) _).setCell (Or.inr (by show _ ≤ b15; omega)) _).setCell (Or.inr (by show _ ≤ b16; omega)) _).setCell (Or.inr (by show _ ≤ b16; omega)) _
          · rename_i hx
            exact absurd (HL2.out.trans (i64wrap _)) hx
end Go.Proofs.YtifellalnojomaaDoor
