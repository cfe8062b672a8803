/- known: the examples of the document. -/
import Derived.Test.YtifellalnojomaaDoorCost
import Derived.Test.YtifellalnojomaaDoorString
import Derived.Deep.RegionHeld3
namespace Go.Proofs.YtifellalnojomaaDoor
open Go.RowKit Go.PL Go.Maps

/-- the five cells that known reads -/
structure KnC (p : Nat) (w : World) : Prop where
  a0 : w.cell? ⟨p, 0, none⟩ = some (.bool true)
  a1 : w.cell? ⟨p, 1, none⟩ = some (.int .i64 3)
  b0 : w.cell? ⟨p + 1, 0, none⟩ = some (.bool true)
  b1 : w.cell? ⟨p + 1, 1, none⟩ = some (.int .i64 5)
  c0 : w.cell? ⟨p + 1 + 1, 0, none⟩ = some (.bool false)
  c1 : w.cell? ⟨p + 1 + 1, 1, none⟩ = some (.int .i64 0)
theorem KnC.upto {p : Nat} {w w' : World} (h : KnC p w) (hu : Upto [] w w') : KnC p w' :=
  have k : ∀ {a : Addr} {v : Value}, w.cell? a = some v → w'.cell? a = some v := fun {a} {v} h => (hu.cell (p := a) (World.block_lt_of_cell? w a h) (by simp)).trans h
  ⟨k h.a0, k h.a1, k h.b0, k h.b1, k h.c0, k h.c1⟩

set_option maxRecDepth 100000 in
set_option maxHeartbeats 3200000 in
theorem known_calls (w : World) : Calls Tryd.prog 16 #[] w fun e w' => e = .returned (.bool true) ∧ Upto [] w w' := by
  have H1 := Lib.hid (minAdd_calls true 3 true 5)
  have H2 := Lib.hid (minMul_calls true 3 true 5)
  have H3 := Lib.hid (minAdd_calls false 0 true 5)
  have H4 := Lib.hid (minMul_calls false 0 true 5)
  have H5 := Lib.hid (maxAdd_calls true 3 true 5)
  have H6 := Lib.hid one_calls
  rw [show orF (true, 3) (true, 5) (decide ((3 : Int) < 5)) = (true, 3) from rfl] at H1
  rw [show andF (true, 3) (true, 5) = (true, 8) from by simp [andF, wrap64]] at H2
  rw [show orF (false, 0) (true, 5) (decide ((0 : Int) < 5)) = (true, 5) from rfl] at H3
  rw [show andF (false, 0) (true, 5) = (false, 0) from rfl] at H4
  rw [show orF (true, 3) (true, 5) (decide ((3 : Int) > 5)) = (true, 5) from rfl] at H5
  simp only [cv] at H1 H2 H3 H4 H5
  have S1 := Lib.hid string_one
  obtain ⟨W, hW⟩ : ∃ W, W = ((((w.alloc (.cells #[] 29)).alloc (.cells #[] 30)).alloc (.cells #[.bool true, .int .i64 3] 32)).alloc (.cells #[.bool true, .int .i64 5] 32)).alloc (.cells #[.bool false, .int .i64 0] 32) := ⟨_, rfl⟩
  have hk : KnC (w.heap.size + 1 + 1) W := by
    have ka := alloc_old (alloc_old (new_at ((w.alloc (.cells #[] 29)).alloc (.cells #[] 30)) (.cells #[.bool true, .int .i64 3] 32)) (.cells #[.bool true, .int .i64 5] 32)) (.cells #[.bool false, .int .i64 0] 32)
    have kb := alloc_old (new_at (((w.alloc (.cells #[] 29)).alloc (.cells #[] 30)).alloc (.cells #[.bool true, .int .i64 3] 32)) (.cells #[.bool true, .int .i64 5] 32)) (.cells #[.bool false, .int .i64 0] 32)
    have kc := new_at ((((w.alloc (.cells #[] 29)).alloc (.cells #[] 30)).alloc (.cells #[.bool true, .int .i64 3] 32)).alloc (.cells #[.bool true, .int .i64 5] 32)) (.cells #[.bool false, .int .i64 0] 32)
    simp only [World.size_alloc] at ka kb kc
    rw [← hW] at ka kb kc
    exact ⟨cell_of ka 0, cell_of ka 1, cell_of kb 0, cell_of kb 1, cell_of kc 0, cell_of kc 1⟩
  have hup : Upto [] w W := by rw [hW]; exact ((((((Upto.refl [] w).alloc _).alloc _).alloc _).alloc _).alloc _)
  go_enter Tryd.func16, Tryd.ntmps16
  go_upto_region 3 with fail
  rw [← hW]
  clear hW
  generalize w.heap.size = p at *
  have hW0 := Upto.refl [] W
  have A1 : Hid (∀ u, Upto [] W u → Calls Tryd.prog 21 #[.agg #[], .agg #[.bool true, .int .i64 3], .agg #[.bool true, .int .i64 5]] u fun e w' => e = .returned (.agg #[.bool true, .int .i64 3]) ∧ Upto [] W w') := fun u hu => (H1.out u).mono fun e w' h => ⟨h.1, hu.trans_ext h.2⟩
  have A2 : Hid (∀ u, Upto [] W u → Calls Tryd.prog 24 #[.agg #[], .agg #[.bool true, .int .i64 3], .agg #[.bool true, .int .i64 5]] u fun e w' => e = .returned (.agg #[.bool true, .int .i64 8]) ∧ Upto [] W w') := fun u hu => (H2.out u).mono fun e w' h => ⟨h.1, hu.trans_ext h.2⟩
  have A3 : Hid (∀ u, Upto [] W u → Calls Tryd.prog 21 #[.agg #[], .agg #[.bool false, .int .i64 0], .agg #[.bool true, .int .i64 5]] u fun e w' => e = .returned (.agg #[.bool true, .int .i64 5]) ∧ Upto [] W w') := fun u hu => (H3.out u).mono fun e w' h => ⟨h.1, hu.trans_ext h.2⟩
  have A4 : Hid (∀ u, Upto [] W u → Calls Tryd.prog 24 #[.agg #[], .agg #[.bool false, .int .i64 0], .agg #[.bool true, .int .i64 5]] u fun e w' => e = .returned (.agg #[.bool false, .int .i64 0]) ∧ Upto [] W w') := fun u hu => (H4.out u).mono fun e w' h => ⟨h.1, hu.trans_ext h.2⟩
  have A5 : Hid (∀ u, Upto [] W u → Calls Tryd.prog 23 #[.agg #[], .agg #[.bool true, .int .i64 3], .agg #[.bool true, .int .i64 5]] u fun e w' => e = .returned (.agg #[.bool true, .int .i64 5]) ∧ Upto [] W w') := fun u hu => (H5.out u).mono fun e w' h => ⟨h.1, hu.trans_ext h.2⟩
  have A6 : Hid (∀ u, Upto [] W u → Calls Tryd.prog 38 #[.agg #[]] u fun e w' => ∃ b, e = .returned (.agg #[.slice (some ⟨b, 0, none⟩) 1 2]) ∧ w'.cell? ⟨b, 0, none⟩ = some (.int .u32 1) ∧ Upto [] W w') := fun u hu => (H6.out u).mono fun e w' ⟨b, h1, _, h2, h3⟩ => ⟨b, h1, h2, hu.trans_ext h3⟩
  have A7 : Hid (∀ u b, u.cell? ⟨b, 0, none⟩ = some (.int .u32 1) → Upto [] W u → Calls Tryd.prog 64 #[.agg #[.slice (some ⟨b, 0, none⟩) 1 2]] u fun e w' => e = .returned (.string ⟨#[49]⟩) ∧ Upto [] W w') := fun u b hb hu => (S1.out b 2 u hb).mono fun e w' h => ⟨h.1, hu.trans_ext h.2⟩
  have HK := Lib.hid hk
  have HU := Lib.hid hup
  obtain ⟨m0, m1, m2, m3, m4, m5⟩ := hk
  clear H1 H2 H3 H4 H5 H6 S1 hup
  go_region_held3 (fun w' => w'.cell? ⟨p + 1 + 1, 0, none⟩ = some (.bool true) ∧ w'.cell? ⟨p + 1 + 1, 1, none⟩ = some (.int .i64 3) ∧ w'.cell? ⟨p + 1 + 1 + 1, 0, none⟩ = some (.bool true) ∧ w'.cell? ⟨p + 1 + 1 + 1, 1, none⟩ = some (.int .i64 5) ∧ w'.cell? ⟨p + 1 + 1 + 1 + 1, 0, none⟩ = some (.bool false) ∧ w'.cell? ⟨p + 1 + 1 + 1 + 1, 1, none⟩ = some (.int .i64 0))
    (first | exact ⟨m0, m1, m2, m3, m4, m5⟩ | go_keep)
    (first
     | (go_at_call 21; with_reducible refine (A1.out _ (by first | exact hW0.drew | exact hW0)).mono ?_; rintro e w3 ⟨rfl, h3⟩; obtain ⟨m0, m1, m2, m3, m4, m5⟩ := HK.out.upto h3; clear A1)
     | (go_at_call 24; with_reducible refine (A2.out _ h3).mono ?_; rintro e w4 ⟨rfl, h4⟩; obtain ⟨m0, m1, m2, m3, m4, m5⟩ := HK.out.upto h4; clear A2)
     | (go_at_call 21; with_reducible refine (A3.out _ h4).mono ?_; rintro e w5 ⟨rfl, h5⟩; obtain ⟨m0, m1, m2, m3, m4, m5⟩ := HK.out.upto h5; clear A3)
     | (go_at_call 24; with_reducible refine (A4.out _ h5).mono ?_; rintro e w6 ⟨rfl, h6⟩; obtain ⟨m0, m1, m2, m3, m4, m5⟩ := HK.out.upto h6; clear A4)
     | (go_at_call 23; with_reducible refine (A5.out _ h6).mono ?_; rintro e w7 ⟨rfl, h7⟩; obtain ⟨m0, m1, m2, m3, m4, m5⟩ := HK.out.upto h7; clear A5)
     | (go_at_call 38; with_reducible refine (A6.out _ h7).mono ?_; rintro e w8 ⟨b, rfl, hb8, h8⟩; obtain ⟨m0, m1, m2, m3, m4, m5⟩ := HK.out.upto h8; clear A6)
     | (go_at_call 64; with_reducible refine (A7.out _ _ hb8 h8).mono ?_; rintro e w9 ⟨rfl, h9⟩; obtain ⟨m0, m1, m2, m3, m4, m5⟩ := HK.out.upto h9; clear A7)
     | fail)
  go_wp2
  go_ret
  exact ⟨rfl, HU.out.trans_ext h9⟩
end Go.Proofs.YtifellalnojomaaDoor
