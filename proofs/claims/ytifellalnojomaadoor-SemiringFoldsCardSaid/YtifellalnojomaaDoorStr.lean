/- String of the number one: FormatUint, Reverse, Join on what it hands them; Natural.One. -/
import Derived.Test.YtifellalnojomaaDoorBack
namespace Go.Proofs.YtifellalnojomaaDoor
open Go.RowKit Go.PL Go.Maps

def one1 : ByteArray := ⟨#[49]⟩

set_option maxRecDepth 100000 in
set_option maxHeartbeats 400000 in
theorem small_one (w : World) : Calls Tryd.prog 106 #[.int .i64 1] w fun e w' => e = .returned (.string ⟨#[49]⟩) ∧ w = w' := by
  go_enter Tryd.func106, Tryd.ntmps106
  go_wp2
  go_ret
  exact ⟨rfl, rfl⟩

set_option maxRecDepth 100000 in
set_option maxHeartbeats 400000 in
theorem format_one (w : World) : Calls Tryd.prog 98 #[.int .u64 1, .int .i64 10] w fun e w' => e = .returned (.string ⟨#[49]⟩) ∧ w = w' := by
  have H := Lib.hid small_one
  go_enter Tryd.func98, Tryd.ntmps98
  go_wp2_with fail
  refine (H.out _).mono ?_
  rintro e w1 ⟨rfl, rfl⟩
  go_wp2
  go_ret
  exact ⟨rfl, rfl⟩

set_option maxRecDepth 100000 in
set_option maxHeartbeats 400000 in
theorem formatU_one (w : World) : Calls Tryd.prog 92 #[.int .u64 1, .int .i64 10] w fun e w' => e = .returned (.string ⟨#[49]⟩) ∧ w = w' := by
  have H := Lib.hid format_one
  go_enter Tryd.func92, Tryd.ntmps92
  go_wp2_with fail
  refine (H.out _).mono ?_
  rintro e w1 ⟨rfl, rfl⟩
  go_wp2
  go_ret
  exact ⟨rfl, rfl⟩

set_option maxRecDepth 100000 in
set_option maxHeartbeats 400000 in
/-- slices.Reverse of one element -/
theorem reverse_one (a : Option Addr) (c : Nat) (w : World) : Calls Tryd.prog 94 #[.slice a 1 c] w fun e w' => (∃ v, e = .returned v) ∧ w = w' := by
  go_enter Tryd.func94, Tryd.ntmps94
  go_wp2_with fail
  go_loopw [2, 3] (fun i j wr => i = .int .i64 0 ∧ j = .int .i64 0 ∧ wr = w) (fun _ _ _ => 0)
  case atStart => exact ⟨rfl, rfl, rfl⟩
  case round =>
    obtain ⟨rfl, rfl, rfl⟩ := hrel
    go_wp2
    go_end0
    exact ⟨⟨_, rfl⟩, rfl⟩

set_option maxRecDepth 100000 in
set_option maxHeartbeats 400000 in
/-- strings.Join of one string -/
theorem join_one (g o c : Nat) (s sep : ByteArray) (w : World) (hs : w.cell? ⟨g, o, none⟩ = some (.string s)) : Calls Tryd.prog 95 #[.slice (some ⟨g, o, none⟩) 1 c, .string sep] w fun e w' => e = .returned (.string s) ∧ w = w' := by
  go_enter Tryd.func95, Tryd.ntmps95
  go_wp2
  go_ret
  exact ⟨rfl, rfl⟩

theorem trim1 : trimN [((1 : Nat) : Int) % 4294967296, ((1 : Nat) : Int) / 4294967296] = 1 := by decide

set_option maxRecDepth 100000 in
set_option maxHeartbeats 400000 in
/-- Natural.One -/
theorem one_calls (w : World) : Calls Tryd.prog 38 #[.agg #[]] w fun e w' => ∃ b, e = .returned (.agg #[.slice (some ⟨b, 0, none⟩) 1 2]) ∧ w.heap.size ≤ b ∧ w'.cell? ⟨b, 0, none⟩ = some (.int .u32 1) ∧ Upto [] w w' := by
  have H := Lib.hid (from_calls 1 (by omega))
  have hu : Upto [] w ((w.alloc (.cells #[] 42)).alloc (.cells #[.slice none 0 0] 45)) := ((Upto.refl [] w).alloc _).alloc _
  have b1 := new_at1 w (.cells #[] 42) (.cells #[.slice none 0 0] 45)
  go_enter Tryd.func38, Tryd.ntmps38
  go_wp2_with fail
  refine (H.out _).mono ?_
  rintro e w2 ⟨b, rfl, hb, hc, hu2⟩
  rw [trim1]
  have hc0 := cell_of hc 0
  have c1 := hu2.at b1 (by simp)
  have f1 := free_of c1 0
  have q1 := cell_of c1 0
  simp at q1 hc0 hb
  have hu3 := hu.trans_ext hu2
  clear H
  go_wp2
  refine bodyPost_ret (v := .agg #[.slice (some ⟨b, 0, none⟩) 1 2]) (by simp [results, Tryd.results38, go_sem, q1]) rfl ⟨b, rfl, by omega, ?_, hu3.setCell (Or.inr (by simp)) _⟩
  exact cell_setOther hc0 (by omega) _
end Go.Proofs.YtifellalnojomaaDoor
