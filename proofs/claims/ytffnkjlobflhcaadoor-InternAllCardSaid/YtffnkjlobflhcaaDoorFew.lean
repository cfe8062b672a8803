/- room and few, by what they compute. -/
import Derived.Test.YtffnkjlobflhcaaDoorPool2
import Derived.Test.YtffnkjlobflhcaaDoorLib
namespace Go.Proofs.YtffnkjlobflhcaaDoor
open Go.PL

def roomF (n : Int) : Nat := (IntKind.u64.wrap n % 30).toNat
theorem roomF_lt (n : Int) : roomF n < 30 := by
  have h1 : 0 ≤ IntKind.u64.wrap n := by simp [IntKind.wrap, IntKind.signed, IntKind.bits]; omega
  unfold roomF
  omega
set_option maxHeartbeats 400000 in
theorem room_is (n : Int) (w : World) : Calls Tryd.prog 14 #[.int .i64 n] w fun e w' => e = .returned (.int .i64 (roomF n)) ∧ w = w' := by
  have h1 : 0 ≤ IntKind.u64.wrap n := by simp [IntKind.wrap, IntKind.signed, IntKind.bits]; omega
  go_enter Tryd.func14, Tryd.ntmps14
  go_wp2
  go_ret
  exact ⟨ret_int (by unfold roomF; omega), rfl⟩

def fewF (s : ByteArray) : ByteArray := if 50 < s.size then s.extract 0 50 else s
theorem fewF_size (s : ByteArray) : (fewF s).size ≤ 50 := by
  unfold fewF
  split
  · rw [ByteArray.size_extract]; omega
  · omega
set_option maxHeartbeats 400000 in
theorem few_is (s : ByteArray) (w : World) (hs : s.size ≤ 9223372036854775807) :
    Calls Tryd.prog 17 #[.string s] w fun e w' => e = .returned (.string (fewF s)) ∧ w = w' := by
  go_enter Tryd.func17, Tryd.ntmps17
  go_wp2
  all_goals
    go_ret
    refine ⟨ret_str ?_, rfl⟩
    unfold fewF
    first
      | (rw [if_pos (by omega)]; done)
      | (rw [if_neg (by omega)]; try simp; done)
      | (split <;> first | rfl | (exfalso; omega) | (simp_all; done))
end Go.Proofs.YtffnkjlobflhcaaDoor
