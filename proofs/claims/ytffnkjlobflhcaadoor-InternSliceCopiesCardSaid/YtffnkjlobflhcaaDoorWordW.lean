/- The reference's Word: the walk. -/
import Derived.Test.YtffnkjlobflhcaaDoorWord
namespace Go.Proofs.YtffnkjlobflhcaaDoor
open Go.RowKit Go.PL Go.Maps

theorem leL_snoc : ∀ (k n : Nat), leL (k + 1) n = leL k n ++ [UInt8.ofNat (n / 256 ^ k)]
  | 0, n => by simp [leL]
  | k + 1, n => by
    have h := leL_snoc k (n / 256)
    have e : n / 256 / 256 ^ k = n / 256 ^ (k + 1) := by rw [Nat.div_div_eq_div_mul, Nat.pow_succ, Nat.mul_comm]
    rw [e] at h
    simp only [leL] at h ⊢
    rw [h]
    simp
theorem wordL_snoc (xs : List Int) (x : Int) : wordL (xs ++ [x]) = wordL xs ++ leL 8 (u64 x) := by simp [wordL]
def wordB (xs : List Int) : ByteArray := ⟨(wordL xs).toArray⟩
def wpart (xs : List Int) (x : Int) (k : Nat) : ByteArray := ⟨(wordL xs ++ leL k (u64 x)).toArray⟩
theorem wpart_zero (xs : List Int) (x : Int) : wpart xs x 0 = wordB xs := by simp [wpart, wordB, leL]
theorem wpart_eight (xs : List Int) (x : Int) : wpart xs x 8 = wordB (xs ++ [x]) := by rw [wpart, wordB, wordL_snoc]
theorem wpart_succ (xs : List Int) (x : Int) (k : Nat) : wpart xs x k ++ ⟨#[UInt8.ofNat (u64 x / 256 ^ k)]⟩ = wpart xs x (k + 1) := by
  apply ByteArray.ext
  simp [wpart, leL_snoc]
theorem wpart_size (xs : List Int) (x : Int) (k : Nat) : (wpart xs x k).size = 8 * xs.length + k := by
  show (wordL xs ++ leL k (u64 x)).toArray.size = _
  simp [wordL_length, leL_length]
theorem u64_cast (x : Int) : IntKind.u64.wrap x = (u64 x : Int) := by
  have h1 : 0 ≤ IntKind.u64.wrap x := by simp [IntKind.wrap, IntKind.signed, IntKind.bits]; omega
  unfold u64; omega
/-- the byte of a number, in a slice of its own, as a text -/
theorem byte_text (w : World) (m : Nat) : (convert 84 9 (.slice (some ⟨w.heap.size, 0, none⟩) 1 1)).run Tryd.prog (w.alloc (.cells #[.int .u8 ((m : Int) % 256)] 5)) = .ok (.string ⟨#[UInt8.ofNat m]⟩) (w.alloc (.cells #[.int .u8 ((m : Int) % 256)] 5)) := by
  refine conv_str (bs := [UInt8.ofNat m]) Tryd.underlying84 Tryd.underlying5 Tryd.underlying9 (Or.inr ⟨w.heap.size, 0, 1, rfl, fun j u hj => ?_⟩)
  match j, hj with
  | 0, hj =>
    simp at hj
    subst hj
    rw [cell_of (new_at _ _)]
    simp [bv]

set_option maxRecDepth 100000 in
set_option maxHeartbeats 1600000 in
theorem word_calls (xs : List Int) (va : Option Addr) (vc : Nat) (w : World) (hv : SlC w (.slice va xs.length vc) (xs.map iv)) (hl : xs.length ≤ 1048576) :
    Calls Tryd.prog 25 #[.slice va xs.length vc] w fun e w' => e = .returned (.string (wordB xs)) ∧ Upto [] w w' := by
  go_enter Tryd.func25, Tryd.ntmps25
  go_wp2
  go_loopw [3, 4, 5, 6] (fun s i _ _ wr => ∃ k : Nat, k ≤ xs.length ∧ i = .int .i64 k ∧ s = .string (wordB (xs.take k)) ∧ Upto [] w wr) (fun _ i _ _ _ => xs.length - (intOf i).toNat)
  case atStart => exact ⟨0, by omega, rfl, rfl, Upto.refl _ _⟩
  case round =>
    obtain ⟨i, hi, rfl, rfl, hup⟩ := hrel
    by_cases hlt : i < xs.length
    · have hv1 := hv.ext hup
      rcases hv1 with ⟨h0, _⟩ | ⟨g, o, c, hs, hc⟩
      · simp at h0; rw [h0] at hlt; simp at hlt
      simp only [Value.slice.injEq] at hs
      obtain ⟨rfl, -, rfl⟩ := hs
      have hcell := hc i (iv xs[i]) (by simp [hlt])
      have htk : xs.take (i + 1) = xs.take i ++ [xs[i]] := by rw [List.take_add_one, List.getElem?_eq_getElem hlt]; rfl
      have htl : (xs.take i).length = i := by simp; omega
      have HT := Lib.hid htk
      have HL := Lib.hid htl
      have hcx := u64_cast xs[i]
      have hul := u64_lt xs[i]
      have hz := wpart_zero (xs.take i) xs[i]
      have HZ := Lib.hid hz
      unfold iv at hcell
      clear htk hc htl hz
      generalize xs[i] = x at *
      generalize xs.take i = ys at *
      obtain ⟨m, hm⟩ : ∃ m, m = u64 x := ⟨_, rfl⟩
      rw [← hm] at hcx hul
      have HM := Lib.hid hm
      clear hm
      go_wp2
      go_loopw [3, 5, 6] (fun s n kv wr => ∃ k : Nat, k ≤ 8 ∧ kv = .int .i64 k ∧ s = .string (wpart ys x k) ∧ n = .int .u64 ((m / 256 ^ k : Nat) : Int) ∧ Upto [] w wr) (fun _ _ kv _ => 8 - (intOf kv).toNat)
      case atStart => exact ⟨0, by omega, rfl, by rw [HZ.out], by simp, hup⟩
      case round =>
        obtain ⟨k, hk, rfl, rfl, rfl, hup⟩ := hrel
        by_cases hlt8 : k < 8
        · have hq : m / 256 ^ k < 256 ^ 8 := Nat.lt_of_le_of_lt (Nat.div_le_self _ _) hul
          have hn : m / 256 ^ k / 256 = m / 256 ^ (k + 1) := by rw [Nat.div_div_eq_div_mul, Nat.pow_succ]
          have hs := wpart_succ ys x k
          rw [← HM.out] at hs
          have hsz := wpart_size ys x k
          have HS := Lib.hid hs
          have HN := Lib.hid hn
          have hz1 : (wpart ys x k).size + 1 ≤ 9223372036854775807 := by have := HL.out; omega
          have HB := Lib.hid (byte_text · (m / 256 ^ k))
          clear hs hn hsz hcx hul
          generalize m / 256 ^ k = q at *
          generalize wpart ys x k = s at *
          have hbt := HB.out wr
          have q0 : (0 : Int) ≤ q := by omega
          have q1 : (q : Int) ≤ 18446744073709551615 := by have := hq; omega
          go_wp2
          go_roundw
          case rel => exact ⟨k + 1, by omega, by go_num, by rw [HS.out], by rw [← HN.out]; go_num, hup.alloc _⟩
          case measure => simp [intOf]; omega
        · obtain rfl : k = 8 := by omega
          have h8 := wpart_eight ys x
          rw [← HT.out] at h8
          have H8 := Lib.hid h8
          clear h8 hcx hul
          go_wp2
          go_roundw
          case rel => exact ⟨i + 1, by omega, by go_num, by rw [H8.out], hup⟩
          case measure => simp [intOf]; omega
    · obtain rfl : i = xs.length := by omega
      rw [List.take_length]
      go_wp2
      go_ret
      exact ⟨rfl, hup⟩
end Go.Proofs.YtffnkjlobflhcaaDoor
