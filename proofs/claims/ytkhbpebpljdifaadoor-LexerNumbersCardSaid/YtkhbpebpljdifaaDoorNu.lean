/- The walk of LexerNumbers. -/
import Derived.Test.YtkhbpebpljdifaaDoorLx
namespace Go.Proofs.YtkhbpebpljdifaaDoor
open Go.RowKit Go.PL Go.Maps

/-- one for the empty string -/
def noneOf : Value → Nat
  | .string b => if b.size = 0 then 1 else 0
  | _ => 0
theorem noneOf_nil : noneOf (.string ⟨#[]⟩) = 1 := rfl
theorem noneOf_cons (b : UInt8) (s : List UInt8) : noneOf (.string ⟨(b :: s).toArray⟩) = 0 := by
  have : (ByteArray.mk (b :: s).toArray).size = s.length + 1 := by show (b :: s).toArray.size = _; simp
  simp [noneOf, this]

/-- the numeral's loop and what follows it, for a number k -/
theorem digit_val (m : Nat) : ((48 + m % 10 : Nat) : Int) = ((UInt8.ofNat (48 + m % 10)).toNat : Int) := by rw [digit_nat]

theorem conv_digit (wr : World) (m : Nat) : (convert 38 9 (.slice (some ⟨wr.heap.size, 0, none⟩) 1 1)).run Tryd.prog (wr.alloc (.cells #[.int .u8 (48 + (m : Int) % 10)] 5)) = .ok (.string ⟨[UInt8.ofNat (48 + m % 10)].toArray⟩) (wr.alloc (.cells #[.int .u8 (48 + (m : Int) % 10)] 5)) := by
  refine conv_str Tryd.underlying38 Tryd.underlying5 Tryd.underlying9 (Or.inr ⟨wr.heap.size, 0, 1, rfl, fun j u hj => ?_⟩)
  match j, hj with
  | 0, hj =>
    simp only [List.map_cons, List.getElem?_cons_zero, Option.some.injEq] at hj
    rw [← hj, cell_of (new_at _ _)]
    simp only [bv, digit_nat]
    rfl
  | j + 1, hj => simp at hj

set_option maxRecDepth 100000 in
set_option maxHeartbeats 6400000 in
theorem lexerNumbers_walk (z : Int) (hz : -2147483648 ≤ z ∧ z ≤ 2147483647) (w : World) (he : Env w) : Calls Tryd.prog 6 #[.int .i32 z] w fun e w' => e = .returned (.bool true) ∧ Upto [] w w' := by
  obtain ⟨hz0, hz1⟩ := hz
  have h0 := Lib.hid he
  have HT := Lib.hid tokenize_calls
  have HK := Lib.hid knownL_calls
  clear he
  obtain ⟨k, hk, hkz⟩ : ∃ k : Nat, k ≤ 2147483647 ∧ (z = k ∨ z = -(k : Int) - 1) := by
    by_cases h : z < 0
    · exact ⟨(-z - 1).toNat, by omega, Or.inr (by omega)⟩
    · exact ⟨z.toNat, by omega, Or.inl (by omega)⟩
  have hk' : (k : Int) ≤ 2147483647 := by omega
  have hk0 : (0 : Int) ≤ k := by omega
  rcases hkz with rfl | rfl
  all_goals
    go_enter Tryd.func6, Tryd.ntmps6
    go_wp2_with fail
    go_loopw [4, 5] (fun sv mv wr => ∃ (s : List UInt8) (m : Nat), sv = .string ⟨s.toArray⟩ ∧ mv = .int .i64 m ∧ NumI k s m ∧ m ≤ k ∧ Upto [] w wr) (fun sv mv _ => (intOf mv).toNat + noneOf sv)
    case atStart => exact ⟨[], k, rfl, rfl, NumI.start k, Nat.le_refl _, Upto.refl _ _⟩
    case round =>
      obtain ⟨s, m, rfl, rfl, hI, hmk, hup⟩ := hrel
      have HI := Lib.hid hI
      have hshort := hI.short hk
      clear hI
      have hm0 : (0 : Int) ≤ m := by omega
      have hm1 : (m : Int) ≤ 2147483647 := by omega
      have hd := digit_val m
      have hdr : (0 : Int) ≤ m % 10 := by omega
      have hdr2 : (m : Int) % 10 ≤ 9 := by omega
      cases s with
      | nil =>
        have hcv : (convert 38 9 (.slice (some ⟨wr.heap.size, 0, none⟩) 1 1)).run Tryd.prog (wr.alloc (.cells #[.int .u8 (48 + (m : Int) % 10)] 5)) = .ok (.string ⟨[UInt8.ofNat (48 + m % 10)].toArray⟩) (wr.alloc (.cells #[.int .u8 (48 + (m : Int) % 10)] 5)) :=
          conv_digit wr m
        have hcat : (ByteArray.mk [UInt8.ofNat (48 + m % 10)].toArray ++ ByteArray.mk ([]).toArray) = ⟨(UInt8.ofNat (48 + m % 10) :: []).toArray⟩ := by rw [ByteArray.mk_append_mk]; rfl
        have HS := Lib.hid (HI.out.step (Or.inl rfl))
        have hs1 : (ByteArray.mk [UInt8.ofNat (48 + m % 10)].toArray).size = 1 := rfl
        have hmk2 : m / 10 ≤ k := by omega
        generalize UInt8.ofNat (48 + m % 10) = d at *
        go_wp2_with fail
        go_roundw
        case rel => exact ⟨d :: [], m / 10, rfl, by go_num, HS.out, hmk2, hup.alloc _⟩
        case measure => rw [noneOf_nil, noneOf_cons]; simp [intOf]; omega
      | cons b t =>
        have hsz : (ByteArray.mk (b :: t).toArray).size = (b :: t).length := rfl
        have hne : ((b :: t) == ([] : List UInt8)) = false := rfl
        have hln : ((b :: t).length : Int) ≤ 10 := by omega
        have hln0 : (0 : Int) ≤ (b :: t).length := by omega
        by_cases hm : 0 < m
        · have hm' : (0 : Int) < m := by omega
          have hcv : (convert 38 9 (.slice (some ⟨wr.heap.size, 0, none⟩) 1 1)).run Tryd.prog (wr.alloc (.cells #[.int .u8 (48 + (m : Int) % 10)] 5)) = .ok (.string ⟨[UInt8.ofNat (48 + m % 10)].toArray⟩) (wr.alloc (.cells #[.int .u8 (48 + (m : Int) % 10)] 5)) :=
            conv_digit wr m
          have hcat : (ByteArray.mk [UInt8.ofNat (48 + m % 10)].toArray ++ ByteArray.mk (b :: t).toArray) = ⟨(UInt8.ofNat (48 + m % 10) :: b :: t).toArray⟩ := by rw [ByteArray.mk_append_mk]; rfl
          have HS := Lib.hid (HI.out.step (Or.inr hm))
          have hs1 : (ByteArray.mk [UInt8.ofNat (48 + m % 10)].toArray).size = 1 := rfl
          have hmk2 : m / 10 ≤ k := by omega
          generalize UInt8.ofNat (48 + m % 10) = d at *
          go_wp2_with fail
          go_roundw
          case rel => exact ⟨d :: b :: t, m / 10, rfl, by go_num, HS.out, hmk2, hup.alloc _⟩
          case measure => rw [noneOf_cons, noneOf_cons]; simp [intOf]; omega
        · obtain rfl : m = 0 := by omega
          have hm' : ¬ (0 : Int) < 0 := by omega
          have hnum := lexT_num HI.out (by simp) hk
          have hzero := lexT_zero HI.out (by simp) hk
          have hx := lexT_x HI.out (by simp) hk
          have hcat0 : (ByteArray.mk [48].toArray ++ ByteArray.mk (b :: t).toArray) = ⟨(48 :: b :: t).toArray⟩ := by rw [ByteArray.mk_append_mk]; rfl
          have hcatx : (ByteArray.mk (b :: t).toArray ++ ByteArray.mk [120].toArray) = ⟨(b :: t ++ [120]).toArray⟩ := by rw [ByteArray.mk_append_mk]
          have HT1 := Lib.hid (tok_ok hnum (by omega))
          have HT2 := Lib.hid (tok_err hzero (by simp only [List.length_cons] at *; omega) 1 1 3 rfl rfl rfl)
          have HT3 := Lib.hid (tok_err hx (by simp only [List.length_append, List.length_cons, List.length_nil] at *; omega) 1 1 3 rfl rfl rfl)
          clear hnum hzero hx HI hd
          generalize b :: t = s at *
          go_wp2_with fail
          refine (HT1.out _ (h0.out.ext hup)).mono ?_
          rintro e w1 ⟨v1, rfl, hv1, hu1⟩
          have hu2 := (hup.trans_ext hu1).alloc (.cells #[.int .i64 0, .int .i64 0] 24)
          have hv2 := hv1.ext ((Upto.refl [] w1).alloc (.cells #[.int .i64 0, .int .i64 0] 24))
          clear hup hu1 hv1
          go_wp2_with fail
          refine (HT2.out _ (h0.out.ext hu2)).mono ?_
          rintro e w3 ⟨rfl, hu3⟩
          have hu4 := (hu2.trans_ext hu3).alloc (.cells #[.int .i64 1, .int .i64 1] 24)
          have hv4 := (hv2.ext hu3).ext ((Upto.refl [] w3).alloc (.cells #[.int .i64 1, .int .i64 1] 24))
          clear hu2 hu3 hv2
          go_wp2_with fail
          refine (HT3.out _ (h0.out.ext hu4)).mono ?_
          rintro e w5 ⟨rfl, hu5⟩
          have hu6 := (hu4.trans_ext hu5).alloc (.cells #[.int .i64 1, .int .i64 1] 24)
          have hv6 := (hv4.ext hu5).ext ((Upto.refl [] w5).alloc (.cells #[.int .i64 1, .int .i64 1] 24))
          clear hu4 hu5 hv4
          go_wp2_with fail
          refine (HK.out _ (h0.out.ext hu6)).mono ?_
          rintro e w7 ⟨rfl, hu7⟩
          have hu8 := hu6.trans_ext hu7
          have hv8 := hv6.ext hu7
          clear hu6 hu7 hv6
          rcases hv8.at with ⟨h1, _⟩ | ⟨g, o, c, rfl, hat⟩
          · cases h1
          · have c0 : w7.cell? ⟨g, o, none⟩ = some (.int .i64 2) := by have := (hat 0 _ rfl).1; simpa using this
            have c2 : w7.cell? ⟨g, o + 2, none⟩ = some (.int .i64 k) := by have := (hat 0 _ rfl).2.2.1; simpa using this
            simp only [List.length_cons, List.length_nil]
            clear hat hv8
            go_wp2_with fail
            go_ret
            exact ⟨rfl, hu8⟩
end Go.Proofs.YtkhbpebpljdifaaDoor
