/- SemiringTropical: the two variables that the law makes (a region that draws its order). -/
import Derived.Test.YtifellalnojomaaDoorRefs
import Derived.Test.YtifellalnojomaaDoorKnown
import Derived.Test.YtifellalnojomaaDoorTropC
import Derived.Deep.DeepCutAuto
import Derived.Deep.CutBlock
namespace Go.Proofs.YtifellalnojomaaDoor
open Go.RowKit Go.PL Go.Maps

/-- six new blocks, one behind the other -/
theorem six (W : World) (o0 o1 o2 o3 o4 o5 : Obj) :
    ((((((W.alloc o0).alloc o1).alloc o2).alloc o3).alloc o4).alloc o5).drew.heap[W.heap.size]? = some o0 ∧
    ((((((W.alloc o0).alloc o1).alloc o2).alloc o3).alloc o4).alloc o5).drew.heap[W.heap.size + 1]? = some o1 ∧
    ((((((W.alloc o0).alloc o1).alloc o2).alloc o3).alloc o4).alloc o5).drew.heap[W.heap.size + 1 + 1]? = some o2 ∧
    ((((((W.alloc o0).alloc o1).alloc o2).alloc o3).alloc o4).alloc o5).drew.heap[W.heap.size + 1 + 1 + 1]? = some o3 ∧
    ((((((W.alloc o0).alloc o1).alloc o2).alloc o3).alloc o4).alloc o5).drew.heap[W.heap.size + 1 + 1 + 1 + 1]? = some o4 ∧
    ((((((W.alloc o0).alloc o1).alloc o2).alloc o3).alloc o4).alloc o5).drew.heap[W.heap.size + 1 + 1 + 1 + 1 + 1]? = some o5 := by
  have a0 := alloc_old (alloc_old (alloc_old (alloc_old (alloc_old (new_at W o0) o1) o2) o3) o4) o5
  have a1 := alloc_old (alloc_old (alloc_old (alloc_old (new_at (W.alloc o0) o1) o2) o3) o4) o5
  have a2 := alloc_old (alloc_old (alloc_old (new_at ((W.alloc o0).alloc o1) o2) o3) o4) o5
  have a3 := alloc_old (alloc_old (new_at (((W.alloc o0).alloc o1).alloc o2) o3) o4) o5
  have a4 := alloc_old (new_at ((((W.alloc o0).alloc o1).alloc o2).alloc o3) o4) o5
  have a5 := new_at (((((W.alloc o0).alloc o1).alloc o2).alloc o3).alloc o4) o5
  simp only [World.size_alloc] at a1 a2 a3 a4 a5
  exact ⟨a0, a1, a2, a3, a4, a5⟩

/-- what stands behind the region: two variables hold the two pairs -/
def TwoAt (W : World) (k : Bool) (n : Int) (k' : Bool) (n' : Int) (t7 t8 : Value) (wx : World) : Prop :=
  ∃ p q, t7 = .pointer (some ⟨p, 0, none⟩) ∧ t8 = .pointer (some ⟨q, 0, none⟩) ∧ wx.heap[p]? = some (.cells #[.bool k, .int .i64 n] 32 (0, 0)) ∧ wx.heap[q]? = some (.cells #[.bool k', .int .i64 n'] 32 (0, 0)) ∧ Upto [] W wx

set_option maxRecDepth 100000 in
set_option maxHeartbeats 3200000 in
theorem tropical_walk (k : Bool) (n : Int) (k' : Bool) (n' : Int) (w : World) : Calls Tryd.prog 4 #[cv (k, n), cv (k', n')] w fun e w' => e = .returned (.bool true) ∧ Upto [] w w' := by
  simp only [cv]
  have HR1 := Lib.hid (right_calls (k, n))
  have HR2 := Lib.hid (right_calls (k', n'))
  have HK := Lib.hid known_calls
  have HO1 := Lib.hid (own_calls k n)
  have HO2 := Lib.hid (own_calls k' n')
  simp only [cv] at HR1 HR2 HO1 HO2
  have b0 := alloc_old (new_at w (.cells #[.bool k, .int .i64 n] 27)) (.cells #[.bool k', .int .i64 n'] 27)
  have b1 := new_at1 w (.cells #[.bool k, .int .i64 n] 27) (.cells #[.bool k', .int .i64 n'] 27)
  have hu0 : Upto [] w ((w.alloc (.cells #[.bool k, .int .i64 n] 27)).alloc (.cells #[.bool k', .int .i64 n'] 27)) := ((Upto.refl [] w).alloc _).alloc _
  generalize rightF (k, n) = r1 at *
  generalize rightF (k', n') = r2 at *
  go_enter Tryd.func4, Tryd.ntmps4
  go_wp2_with fail
  refine (HR1.out _).mono ?_
  rintro e w1 ⟨rfl, hu1⟩
  have c0 := hu1.at b0 (by simp)
  have c1 := hu1.at b1 (by simp)
  have q0 := cell_of c1 0
  have q1 := cell_of c1 1
  have hu1 := hu0.trans_ext hu1
  simp at q0 q1
  clear b0 b1 hu0
  cases r1
  · go_wp2_with fail
    refine (HK.out _).mono ?_
    rintro e w2 ⟨rfl, hu2⟩
    go_wp2
    go_ret
    exact ⟨rfl, hu1.trans_ext hu2⟩
  · go_wp2_with fail
    refine (HR2.out _).mono ?_
    rintro e w2 ⟨rfl, hu2⟩
    have d0 := hu2.at c0 (by simp)
    have d1 := hu2.at c1 (by simp)
    have hu2 := hu1.trans_ext hu2
    have hz0 := lt_of_heap d0
    have hz1 := lt_of_heap d1
    clear c0 c1 q0 q1 hu1 HR1 HR2
    cases r2
    · go_wp2_with fail
      refine (HK.out _).mono ?_
      rintro e w3 ⟨rfl, hu3⟩
      go_wp2
      go_ret
      exact ⟨rfl, hu2.trans_ext hu3⟩
    · generalize hsz : w.heap.size = sz at *
      have h0 := cell_of (alloc_old (alloc_old d0 (.cells #[] 29)) (.cells #[] 30)) 0
      have h1 := cell_of (alloc_old (alloc_old d0 (.cells #[] 29)) (.cells #[] 30)) 1
      have h2 := cell_of (alloc_old (alloc_old d1 (.cells #[] 29)) (.cells #[] 30)) 0
      have h3 := cell_of (alloc_old (alloc_old d1 (.cells #[] 29)) (.cells #[] 30)) 1
      have hup : Upto [] w ((w2.alloc (.cells #[] 29)).alloc (.cells #[] 30)) := (hu2.alloc _).alloc _
      simp only [List.getElem?_toArray, List.getElem?_cons_zero, List.getElem?_cons_succ] at h0 h1 h2 h3
      go_upto_region 4 with fail
      obtain ⟨W, hW⟩ : ∃ W, W = ((w2.alloc (.cells #[] 29)).alloc (.cells #[] 30)) := ⟨_, rfl⟩
      rw [← hW] at h0 h1 h2 h3 hup ⊢
      clear hW d0 d1
      generalize w2.heap.size = sy at *
      have hy : sz + 1 < W.heap.size := World.block_lt_of_cell? W _ h2
      have hx : sz < W.heap.size := World.block_lt_of_cell? W _ h0
      go_cut [7, 8] (fun t7 t8 wx => TwoAt W k n k' n' t7 t8 wx)
      case first =>
        go_region_held3 (fun w' => w'.cell? ⟨sz, 0, none⟩ = some (.bool k) ∧ w'.cell? ⟨sz, 1, none⟩ = some (.int .i64 n) ∧ w'.cell? ⟨sz + 1, 0, none⟩ = some (.bool k') ∧ w'.cell? ⟨sz + 1, 1, none⟩ = some (.int .i64 n'))
          (((try dsimp only); (repeat' apply And.intro); all_goals first | exact (Upto.cell (S := []) (w := W) (p := ⟨sz, 0, none⟩) (by (repeat (first | exact Upto.refl _ _ | refine Upto.alloc ?_ _ | refine Upto.drew ?_ | refine Upto.setCell ?_ (Or.inr (by first | (simp; done) | (simp; omega) | (simp only []; omega))) _))) hx (by simp)).trans h0 | exact (Upto.cell (S := []) (w := W) (p := ⟨sz, 1, none⟩) (by (repeat (first | exact Upto.refl _ _ | refine Upto.alloc ?_ _ | refine Upto.drew ?_ | refine Upto.setCell ?_ (Or.inr (by first | (simp; done) | (simp; omega) | (simp only []; omega))) _))) hx (by simp)).trans h1 | exact (Upto.cell (S := []) (w := W) (p := ⟨sz + 1, 0, none⟩) (by (repeat (first | exact Upto.refl _ _ | refine Upto.alloc ?_ _ | refine Upto.drew ?_ | refine Upto.setCell ?_ (Or.inr (by first | (simp; done) | (simp; omega) | (simp only []; omega))) _))) hy (by simp)).trans h2 | exact (Upto.cell (S := []) (w := W) (p := ⟨sz + 1, 1, none⟩) (by (repeat (first | exact Upto.refl _ _ | refine Upto.alloc ?_ _ | refine Upto.drew ?_ | refine Upto.setCell ?_ (Or.inr (by first | (simp; done) | (simp; omega) | (simp only []; omega))) _))) hy (by simp)).trans h3))
          (first
           | (go_at_call 18; with_reducible refine (HO1.out _).mono ?_; rintro e w3 ⟨rfl, rfl⟩)
           | (go_at_call 18; with_reducible refine (HO2.out _).mono ?_; rintro e w3 ⟨rfl, rfl⟩)
           | fail)
        all_goals
          go_wp2_with fail
          go_meet
          refine ⟨_, _, rfl, rfl, ?_, ?_, (((((((Upto.refl [] W).alloc _).alloc _).alloc _).alloc _).alloc _).alloc _).drew⟩
          all_goals first | exact (six _ _ _ _ _ _ _).1 | exact (six _ _ _ _ _ _ _).2.1 | exact (six _ _ _ _ _ _ _).2.2.1 | exact (six _ _ _ _ _ _ _).2.2.2.1 | exact (six _ _ _ _ _ _ _).2.2.2.2.1 | exact (six _ _ _ _ _ _ _).2.2.2.2.2
      case rest =>
        obtain ⟨p, q, rfl, rfl, hp, hq, hux⟩ := hcut
        obtain ⟨a1, z1, b1, y1, a2, z2, b2, y2, a3, z3, d, ⟨B21, B20a, B22a, B19a, B23, B20b, B22b, B19b, B24, B20c, B25, B19c, B26, B27, B19d, B28, B29, B30, B31, B32, B16⟩, hz⟩ := tropC k n k' n'
        have hup2 := hup.trans_ext hux
        have g0 := (hux.cell (p := ⟨sz, 0, none⟩) hx (by simp)).trans h0
        have g1 := (hux.cell (p := ⟨sz, 1, none⟩) hx (by simp)).trans h1
        have g2 := (hux.cell (p := ⟨sz + 1, 0, none⟩) hy (by simp)).trans h2
        have g3 := (hux.cell (p := ⟨sz + 1, 1, none⟩) hy (by simp)).trans h3
        have g4 : wc.cell? ⟨p, 0, none⟩ = some (.bool k) := cell_of hp 0
        have g5 : wc.cell? ⟨p, 1, none⟩ = some (.int .i64 n) := cell_of hp 1
        have g6 : wc.cell? ⟨q, 0, none⟩ = some (.bool k') := cell_of hq 0
        have g7 : wc.cell? ⟨q, 1, none⟩ = some (.int .i64 n') := cell_of hq 1
        clear hp hq h0 h1 h2 h3 hup HO1 HO2 HK
        have e0 : ∀ u : Ext wc, u.w.cell? ⟨sz, 0, none⟩ = some (.bool k) := fun u => u.cell g0
        have e1 : ∀ u : Ext wc, u.w.cell? ⟨sz, 1, none⟩ = some (.int .i64 n) := fun u => u.cell g1
        have e2 : ∀ u : Ext wc, u.w.cell? ⟨sz + 1, 0, none⟩ = some (.bool k') := fun u => u.cell g2
        have e3 : ∀ u : Ext wc, u.w.cell? ⟨sz + 1, 1, none⟩ = some (.int .i64 n') := fun u => u.cell g3
        have e4 : ∀ u : Ext wc, u.w.cell? ⟨p, 0, none⟩ = some (.bool k) := fun u => u.cell g4
        have e5 : ∀ u : Ext wc, u.w.cell? ⟨p, 1, none⟩ = some (.int .i64 n) := fun u => u.cell g5
        have e6 : ∀ u : Ext wc, u.w.cell? ⟨q, 0, none⟩ = some (.bool k') := fun u => u.cell g6
        have e7 : ∀ u : Ext wc, u.w.cell? ⟨q, 1, none⟩ = some (.int .i64 n') := fun u => u.cell g7
        have C21 : Hid (∀ u : Ext wc, Calls Tryd.prog 21 #[.agg #[], .agg #[.bool k, .int .i64 n], .agg #[.bool k', .int .i64 n']] u.w fun e w'' => e = .returned (.agg #[.bool a1, .int .i64 z1]) ∧ ∃ m : Ext wc, w'' = m.w) := fun u => calls_ext u (B21.out u.w)
        have C20a : Hid (∀ u : Ext wc, Calls Tryd.prog 20 #[.agg #[.bool a1, .int .i64 z1]] u.w fun e w'' => e = .returned (.agg #[.bool a1, .int .i64 z1]) ∧ ∃ m : Ext wc, w'' = m.w) := fun u => calls_ext u (B20a.out u.w)
        have C22a : Hid (∀ u : Ext wc, Calls Tryd.prog 22 #[.bool false, .agg #[.bool k, .int .i64 n], .agg #[.bool k', .int .i64 n']] u.w fun e w'' => e = .returned (.agg #[.bool b1, .int .i64 y1]) ∧ ∃ m : Ext wc, w'' = m.w) := fun u => calls_ext u (B22a.out u.w)
        have C19a : Hid (∀ u : Ext wc, Calls Tryd.prog 19 #[.agg #[.bool a1, .int .i64 z1], .agg #[.bool b1, .int .i64 y1]] u.w fun e w'' => e = .returned (.bool true) ∧ ∃ m : Ext wc, w'' = m.w) := fun u => calls_ext u (B19a.out u.w)
        have C23 : Hid (∀ u : Ext wc, Calls Tryd.prog 23 #[.agg #[], .agg #[.bool k, .int .i64 n], .agg #[.bool k', .int .i64 n']] u.w fun e w'' => e = .returned (.agg #[.bool a2, .int .i64 z2]) ∧ ∃ m : Ext wc, w'' = m.w) := fun u => calls_ext u (B23.out u.w)
        have C20b : Hid (∀ u : Ext wc, Calls Tryd.prog 20 #[.agg #[.bool a2, .int .i64 z2]] u.w fun e w'' => e = .returned (.agg #[.bool a2, .int .i64 z2]) ∧ ∃ m : Ext wc, w'' = m.w) := fun u => calls_ext u (B20b.out u.w)
        have C22b : Hid (∀ u : Ext wc, Calls Tryd.prog 22 #[.bool true, .agg #[.bool k, .int .i64 n], .agg #[.bool k', .int .i64 n']] u.w fun e w'' => e = .returned (.agg #[.bool b2, .int .i64 y2]) ∧ ∃ m : Ext wc, w'' = m.w) := fun u => calls_ext u (B22b.out u.w)
        have C19b : Hid (∀ u : Ext wc, Calls Tryd.prog 19 #[.agg #[.bool a2, .int .i64 z2], .agg #[.bool b2, .int .i64 y2]] u.w fun e w'' => e = .returned (.bool true) ∧ ∃ m : Ext wc, w'' = m.w) := fun u => calls_ext u (B19b.out u.w)
        have C24 : Hid (∀ u : Ext wc, Calls Tryd.prog 24 #[.agg #[], .agg #[.bool k, .int .i64 n], .agg #[.bool k', .int .i64 n']] u.w fun e w'' => e = .returned (.agg #[.bool a3, .int .i64 z3]) ∧ ∃ m : Ext wc, w'' = m.w) := fun u => calls_ext u (B24.out u.w)
        have C20c : Hid (∀ u : Ext wc, Calls Tryd.prog 20 #[.agg #[.bool a3, .int .i64 z3]] u.w fun e w'' => e = .returned (.agg #[.bool a3, .int .i64 z3]) ∧ ∃ m : Ext wc, w'' = m.w) := fun u => calls_ext u (B20c.out u.w)
        have C25 : Hid (∀ u : Ext wc, Calls Tryd.prog 25 #[.agg #[.bool k, .int .i64 n], .agg #[.bool k', .int .i64 n']] u.w fun e w'' => e = .returned (.agg #[.bool a3, .int .i64 z3]) ∧ ∃ m : Ext wc, w'' = m.w) := fun u => calls_ext u (B25.out u.w)
        have C19c : Hid (∀ u : Ext wc, Calls Tryd.prog 19 #[.agg #[.bool a3, .int .i64 z3], .agg #[.bool a3, .int .i64 z3]] u.w fun e w'' => e = .returned (.bool true) ∧ ∃ m : Ext wc, w'' = m.w) := fun u => calls_ext u (B19c.out u.w)
        have C26 : Hid (∀ u : Ext wc, Calls Tryd.prog 26 #[.agg #[], .agg #[.bool k, .int .i64 n], .agg #[.bool k', .int .i64 n']] u.w fun e w'' => e = .returned (.agg #[.bool a3, .int .i64 z3]) ∧ ∃ m : Ext wc, w'' = m.w) := fun u => calls_ext u (B26.out u.w)
        go_upto_region 5 with fail
        refine wp_region_ext (by kernel_rfl) (by kernel_rfl) ?_
        repeat (go_big_quiet_step ((first | (go_at_call 21; first | with_reducible exact C21.out _) | (go_at_call 20; first | with_reducible exact C20a.out _ | with_reducible exact C20b.out _ | with_reducible exact C20c.out _) | (go_at_call 22; first | with_reducible exact C22a.out _ | with_reducible exact C22b.out _) | (go_at_call 19; first | with_reducible exact C19a.out _ | with_reducible exact C19b.out _ | with_reducible exact C19c.out _) | (go_at_call 23; first | with_reducible exact C23.out _) | (go_at_call 24; first | with_reducible exact C24.out _) | (go_at_call 25; first | with_reducible exact C25.out _) | (go_at_call 26; first | with_reducible exact C26.out _))))
        refine wpQuiet_nil ?_
        rintro _ ⟨u3, rfl⟩
        have hu3 := u3.up
        generalize u3.w = w3 at *
        replace hup2 := hup2.trans_ext hu3
        have hu8 := hu3.alloc (.cells #[.bool true, .int .i64 0] 32)
        have g8 := cell_of (new_at w3 (.cells #[.bool true, .int .i64 0] 32)) 0
        have g9 := cell_of (new_at w3 (.cells #[.bool true, .int .i64 0] 32)) 1
        simp only [List.getElem?_toArray, List.getElem?_cons_zero, List.getElem?_cons_succ] at g8 g9
        replace g0 := (hu8.cell (p := ⟨sz, 0, none⟩) (World.block_lt_of_cell? wc _ g0) (by simp)).trans g0
        replace g1 := (hu8.cell (p := ⟨sz, 1, none⟩) (World.block_lt_of_cell? wc _ g1) (by simp)).trans g1
        replace g2 := (hu8.cell (p := ⟨sz + 1, 0, none⟩) (World.block_lt_of_cell? wc _ g2) (by simp)).trans g2
        replace g3 := (hu8.cell (p := ⟨sz + 1, 1, none⟩) (World.block_lt_of_cell? wc _ g3) (by simp)).trans g3
        replace g4 := (hu8.cell (p := ⟨p, 0, none⟩) (World.block_lt_of_cell? wc _ g4) (by simp)).trans g4
        replace g5 := (hu8.cell (p := ⟨p, 1, none⟩) (World.block_lt_of_cell? wc _ g5) (by simp)).trans g5
        replace g6 := (hu8.cell (p := ⟨q, 0, none⟩) (World.block_lt_of_cell? wc _ g6) (by simp)).trans g6
        replace g7 := (hu8.cell (p := ⟨q, 1, none⟩) (World.block_lt_of_cell? wc _ g7) (by simp)).trans g7
        replace hup2 := hup2.alloc (.cells #[.bool true, .int .i64 0] 32)
        clear e0 e1 e2 e3 e4 e5 e6 e7 C21 C20a C22a C19a C23 C20b C22b C19b C24 C20c C25 C19c C26 hu3 hu8
        have hf0 : ∀ (b : Bool) (z : Int) (u : World), (Instr.field 32 (.agg #[.bool b, .int .i64 z]) 0).run Tryd.prog u = .ok (.bool b) u := fun _ _ _ => by kernel_rfl
        have hf1 : ∀ (b : Bool) (z : Int) (u : World), (Instr.field 32 (.agg #[.bool b, .int .i64 z]) 1).run Tryd.prog u = .ok (.int .i64 z) u := fun _ _ _ => by kernel_rfl
        rcases hz with rfl | ⟨rfl, rfl⟩
        all_goals
          go_upto_region 8 with fail
          generalize w3.alloc (.cells #[.bool true, .int .i64 0] 32) = W8 at *
          generalize w3.heap.size = s9 at *
          have e0 : ∀ u : Ext W8, u.w.cell? ⟨sz, 0, none⟩ = some (.bool k) := fun u => u.cell g0
          have e1 : ∀ u : Ext W8, u.w.cell? ⟨sz, 1, none⟩ = some (.int .i64 n) := fun u => u.cell g1
          have e2 : ∀ u : Ext W8, u.w.cell? ⟨sz + 1, 0, none⟩ = some (.bool k') := fun u => u.cell g2
          have e3 : ∀ u : Ext W8, u.w.cell? ⟨sz + 1, 1, none⟩ = some (.int .i64 n') := fun u => u.cell g3
          have e4 : ∀ u : Ext W8, u.w.cell? ⟨p, 0, none⟩ = some (.bool k) := fun u => u.cell g4
          have e5 : ∀ u : Ext W8, u.w.cell? ⟨p, 1, none⟩ = some (.int .i64 n) := fun u => u.cell g5
          have e6 : ∀ u : Ext W8, u.w.cell? ⟨q, 0, none⟩ = some (.bool k') := fun u => u.cell g6
          have e7 : ∀ u : Ext W8, u.w.cell? ⟨q, 1, none⟩ = some (.int .i64 n') := fun u => u.cell g7
          have e8 : ∀ u : Ext W8, u.w.cell? ⟨s9, 0, none⟩ = some (.bool true) := fun u => u.cell g8
          have e9 : ∀ u : Ext W8, u.w.cell? ⟨s9, 1, none⟩ = some (.int .i64 0) := fun u => u.cell g9
          have C21 := Lib.hid (fun u : Ext W8 => calls_ext u (B21.out u.w))
          have C27 : Hid (∀ u : Ext W8, Calls Tryd.prog 27 #[.agg #[], .agg #[.bool k, .int .i64 n], .agg #[.bool k', .int .i64 n']] u.w fun e w'' => e = .returned (.bool d) ∧ ∃ m : Ext W8, w'' = m.w) := fun u => calls_ext u (B27.out u.w)
          have C19d : Hid (∀ u : Ext W8, Calls Tryd.prog 19 #[.agg #[.bool k, .int .i64 n], .agg #[.bool k', .int .i64 n']] u.w fun e w'' => e = .returned (.bool d) ∧ ∃ m : Ext W8, w'' = m.w) := fun u => calls_ext u (B19d.out u.w)
          have C28 : Hid (∀ u : Ext W8, Calls Tryd.prog 28 #[.agg #[], .agg #[.bool k, .int .i64 n], .agg #[.bool k', .int .i64 n']] u.w fun e w'' => e = .returned (.bool d) ∧ ∃ m : Ext W8, w'' = m.w) := fun u => calls_ext u (B28.out u.w)
          have C29 : Hid (∀ u : Ext W8, Calls Tryd.prog 29 #[.agg #[]] u.w fun e w'' => e = .returned (.agg #[.bool false, .int .i64 0]) ∧ ∃ m : Ext W8, w'' = m.w) := fun u => calls_ext u (B29.out u.w)
          have C30 : Hid (∀ u : Ext W8, Calls Tryd.prog 30 #[.agg #[]] u.w fun e w'' => e = .returned (.agg #[.bool false, .int .i64 0]) ∧ ∃ m : Ext W8, w'' = m.w) := fun u => calls_ext u (B30.out u.w)
          have C31 : Hid (∀ u : Ext W8, Calls Tryd.prog 31 #[.agg #[]] u.w fun e w'' => e = .returned (.agg #[.bool true, .int .i64 0]) ∧ ∃ m : Ext W8, w'' = m.w) := fun u => calls_ext u (B31.out u.w)
          have C32 : Hid (∀ u : Ext W8, Calls Tryd.prog 32 #[.agg #[]] u.w fun e w'' => e = .returned (.agg #[.bool true, .int .i64 0]) ∧ ∃ m : Ext W8, w'' = m.w) := fun u => calls_ext u (B32.out u.w)
          have C16 : Hid (∀ u : Ext W8, Calls Tryd.prog 16 #[] u.w fun e w'' => e = .returned (.bool true) ∧ ∃ m : Ext W8, w'' = m.w) := fun u => calls_ext u (B16.out u.w)
          refine wp_region_ext (by kernel_rfl) (by kernel_rfl) ?_
          repeat (go_big_quiet_step ((first | (go_at_call 21; first | with_reducible exact C21.out _) | (go_at_call 27; first | with_reducible exact C27.out _) | (go_at_call 19; first | with_reducible exact C19d.out _) | (go_at_call 28; first | with_reducible exact C28.out _) | (go_at_call 29; first | with_reducible exact C29.out _) | (go_at_call 30; first | with_reducible exact C30.out _) | (go_at_call 31; first | with_reducible exact C31.out _) | (go_at_call 32; first | with_reducible exact C32.out _) | (go_at_call 16; first | with_reducible exact C16.out _))))
          refine wpQuiet_nil ?_
          rintro _ ⟨u4, rfl⟩
          have hu4 := u4.up
          generalize u4.w = w4 at *
          clear e0 e1 e2 e3 e4 e5 e6 e7 e8 e9
          go_wp2
          go_ret
          exact ⟨rfl, hup2.trans_ext hu4⟩
end Go.Proofs.YtifellalnojomaaDoor
