/- seen: a pool with the contents of the reference's pool. -/
import Derived.Test.YtffnkjlobflhcaaDoorRef
namespace Go.Proofs.YtffnkjlobflhcaaDoor
open Go.RowKit Go.PL Go.Maps

theorem findF_at {ks : List ByteArray} (hn : ks.Nodup) {n : Nat} (h : n < ks.length) : findF ks ks[n] = (n, true) := by
  unfold findF
  have : idx ks ks[n] = some n := idx_first h rfl (fun j hj he => by
    have := (List.getElem?_inj (i := j) (j := n) (by omega) hn).1 (by rw [List.getElem?_eq_getElem (by omega), List.getElem?_eq_getElem h, he])
    omega)
  rw [this]

theorem PoolX.info {w : World} {p room : Nat} {ks : List ByteArray} {S : List Nat} (h : PoolX w p room ks S) : ks.Nodup ∧ ks.length ≤ 1048576 ∧ p < w.heap.size ∧ ∀ k ∈ ks, k.size ≤ maxLen := by
  obtain ⟨mb, sv, h⟩ := h
  exact ⟨h.nodup, Nat.le_trans h.le h.room, lt_of_heap h.blk, h.sizes⟩

set_option maxRecDepth 100000 in
set_option maxHeartbeats 1600000 in
theorem seen_calls (p room room' : Nat) (ks : List ByteArray) (S : List Nat) (va : Option Addr) (vc : Nat) (w : World) (hp : PoolX w p room ks S) (hv : SlC w (.slice va ks.length vc) (ks.map .string)) :
    Calls Tryd.prog 19 #[.pointer (some ⟨p, 0, none⟩), .agg #[.int .i64 room', .slice va ks.length vc]] w fun e w' => e = .returned (.bool true) ∧ Upto [] w w' := by
  obtain ⟨hnd, hlen, hpw, hsz⟩ := hp.info
  have hu : Upto [] w (w.alloc (.cells #[.int .i64 room', .slice va ks.length vc] 38)) := (Upto.refl _ _).alloc _
  have hp1 := hp.upto hu (by simp)
  have hv1 := hv.ext hu
  have b0 := new_at w (.cells #[.int .i64 room', .slice va ks.length vc] 38)
  go_enter Tryd.func19, Tryd.ntmps19
  go_wp2_with fail
  go_quiet ((go_at_call 22; exact Calls.quiet_of_same ((len_calls (hp1.drewN _)).mono fun _ _ h => ⟨h.1, h.2.symm⟩)))
  have hp2 := hp1.drewN nq
  have hv2 := hv1.ext ((Upto.refl [] _).drewN nq)
  have hu2 := hu.drewN nq
  have b2 : ((w.alloc (.cells #[.int .i64 room', .slice va ks.length vc] 38)).drewN nq).heap[w.heap.size]? = some (.cells #[.int .i64 room', .slice va ks.length vc] 38) := b0
  clear hp1 hv1 hu hp hv b0
  generalize (w.alloc (.cells #[.int .i64 room', .slice va ks.length vc] 38)).drewN nq = w2 at *
  have q0 := cell_of b2 0
  have q1 := cell_of b2 1
  simp at q0 q1
  clear b2
  go_wp2
  go_loop [5] (fun i => ∃ n : Int, -1 ≤ n ∧ n ≤ ks.length + 1 ∧ i = .int .i64 n) (fun i => (ks.length + 1 - intOf i).toNat)
  case atStart => exact ⟨-1, by omega, by omega, rfl⟩
  case round =>
    obtain ⟨i, hi1, hi2, rfl⟩ := hrel
    by_cases hlt : i ≤ ks.length
    · by_cases hin : 0 ≤ i ∧ i < ks.length
      · obtain ⟨n, rfl⟩ := Int.eq_ofNat_of_zero_le hin.1
        have hn : n < ks.length := by omega
        have hkey := key_in hp2 n ks[n] (List.getElem?_eq_getElem hn)
        have hfind := find_calls hp2 ks[n] (hsz _ (List.getElem_mem hn))
        rw [findF_at hnd hn] at hfind
        have HK := Lib.hid hkey
        have HF := Lib.hid hfind
        have d1 : decide (n < ks.length) = true := by simpa using hn
        rcases hv2 with ⟨h0, _⟩ | ⟨g, o, c, hs, hc⟩
        · simp at h0; rw [h0] at hn; simp at hn
        · simp only [Value.slice.injEq] at hs
          obtain ⟨rfl, -, rfl⟩ := hs
          have hg := hc n (.string ks[n]) (by simp [hn])
          clear hkey hfind hc hin
          generalize ks[n] = k at *
          go_wp2_with (first
            | (go_at_call 35; refine HK.out.mono ?_; rintro e w' ⟨rfl, rfl⟩)
            | (go_at_call 20; refine HF.out.mono ?_; rintro e w' ⟨rfl, rfl⟩))
          go_round
          case rel => exact ⟨n + 1, by omega, by omega, rfl⟩
          case measure => simp [intOf]; omega
      · have hkey := key_out hp2 i (by omega)
        have HK := Lib.hid hkey
        clear hkey
        by_cases hneg : i < 0
        · clear hin
          go_wp2_with (first
            | (go_at_call 35; refine HK.out.mono ?_; rintro e w' ⟨rfl, rfl⟩))
          go_round
          case rel => exact ⟨i + 1, by omega, by omega, rfl⟩
          case measure => simp [intOf]; omega
        · have h0 : 0 ≤ i := by omega
          have h1 : (ks.length : Int) ≤ i := by omega
          clear hin hneg
          go_wp2_with (first
            | (go_at_call 35; refine HK.out.mono ?_; rintro e w' ⟨rfl, rfl⟩))
          go_round
          case rel => exact ⟨i + 1, by omega, by omega, rfl⟩
          case measure => simp [intOf]; omega
    · go_wp2
      go_ret
      exact ⟨rfl, hu2⟩
end Go.Proofs.YtffnkjlobflhcaaDoor
