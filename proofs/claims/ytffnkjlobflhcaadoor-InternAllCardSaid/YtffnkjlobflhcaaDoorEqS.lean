/- slices.Equal and slices.Clone of []string, the reference's Same, the pool's Equal. -/
import Derived.Test.YtffnkjlobflhcaaDoorSeen
import Derived.Deep.LoopGhost
namespace Go.Proofs.YtffnkjlobflhcaaDoor
open Go.RowKit Go.PL Go.Maps

theorem take_next {xs ys : List ByteArray} {n : Nat} (h : xs.take n = ys.take n) (h1 : n < xs.length) (h2 : n < ys.length) (he : xs[n] = ys[n]) : xs.take (n + 1) = ys.take (n + 1) := by
  rw [List.take_add_one, List.take_add_one, h, List.getElem?_eq_getElem h1, List.getElem?_eq_getElem h2, he]

set_option maxRecDepth 100000 in
set_option maxHeartbeats 800000 in
theorem eqS (xa ya : Option Addr) (xc yc : Nat) (xs ys : List ByteArray) (w : World) (hx : SlC w (.slice xa xs.length xc) (xs.map .string)) (hy : SlC w (.slice ya ys.length yc) (ys.map .string)) (hl : xs.length ≤ 1048576) (hl2 : ys.length ≤ 1048576) :
    Calls Tryd.prog 40 #[.slice xa xs.length xc, .slice ya ys.length yc] w fun e w' => e = .returned (.bool (decide (xs = ys))) ∧ ∃ n, w' = w.drewN n := by
  go_enter Tryd.func40, Tryd.ntmps40
  by_cases hlen : xs.length = ys.length
  · have HL := Lib.hid hlen
    have hlt' : (xs.length : Int) = ys.length := by omega
    go_wp2
    go_loopw [13] (fun iv' wr => ∃ i j : Nat, i ≤ xs.length ∧ iv' = .int .i64 i ∧ xs.take i = ys.take i ∧ wr = w.drewN j) (fun iv' _ => xs.length - (intOf iv').toNat)
    case atStart => exact ⟨0, 0, by omega, rfl, by simp, rfl⟩
    case round =>
      obtain ⟨i, j, hi, rfl, ht, rfl⟩ := hrel
      by_cases hlt : i < xs.length
      · have hlt2 : i < ys.length := by have := HL.out; omega
        rcases hx with ⟨h0, _⟩ | ⟨g, o, c, hs, hc⟩
        · simp at h0; rw [h0] at hlt; simp at hlt
        rcases hy with ⟨h0, _⟩ | ⟨g2, o2, c2, hs2, hc2⟩
        · simp at h0; rw [h0] at hlt2; simp at hlt2
        simp only [Value.slice.injEq] at hs hs2
        obtain ⟨rfl, -, rfl⟩ := hs
        obtain ⟨rfl, -, rfl⟩ := hs2
        have c0 : w.cell? ⟨g, o + i, none⟩ = some (.string xs[i]) := hc i (.string xs[i]) (by simp [hlt])
        have c1 : w.cell? ⟨g2, o2 + i, none⟩ = some (.string ys[i]) := hc2 i (.string ys[i]) (by simp [hlt2])
        have hb := beqS xs[i] ys[i]
        have HT := Lib.hid ht
        by_cases he : xs[i] = ys[i]
        · have hd : (xs[i].toList == ys[i].toList) = true := by rw [hb]; simpa using he
          have HN := Lib.hid (take_next ht hlt hlt2 he)
          clear hb ht he hc hc2
          go_wp2
          go_quiet (fail)
          go_wp2
          go_roundw
          case rel => exact ⟨i + 1, _, by omega, by go_num, HN.out, rfl⟩
          case measure => simp [intOf]; omega
        · have hd : (xs[i].toList == ys[i].toList) = false := by rw [hb]; simpa using he
          have HE := Lib.hid he
          clear hb ht he hc hc2
          go_wp2
          go_quiet (fail)
          go_wp2
          all_goals
            go_ret
            refine ⟨ret_bool ?_, ⟨_, World.drewN_drewN _ _ _⟩⟩
            symm
            simp only [decide_eq_false_iff_not]
            intro h
            subst h
            exact HE.out rfl
      · obtain rfl : i = xs.length := by omega
        have HE : Hid (xs = ys) := by
          have := HL.out
          rw [List.take_length, this, List.take_length] at ht
          exact ht
        clear ht
        go_wp2
        go_ret
        exact ⟨ret_bool (by simp [HE.out]), ⟨j, rfl⟩⟩
  · have hne : ¬ (xs.length : Int) = ys.length := by omega
    have HL := Lib.hid hlen
    go_wp2
    all_goals
      go_ret
      refine ⟨ret_bool ?_, ⟨0, rfl⟩⟩
      symm
      simp only [decide_eq_false_iff_not]
      intro h
      exact HL.out (by rw [h])

set_option maxRecDepth 100000 in
set_option maxHeartbeats 1600000 in
/-- Same: equal rooms and equal keys -/
theorem same_calls (r1 r2 : Nat) (xa ya : Option Addr) (xc yc : Nat) (xs ys : List ByteArray) (w : World) (hx : SlC w (.slice xa xs.length xc) (xs.map .string)) (hy : SlC w (.slice ya ys.length yc) (ys.map .string)) (hl : xs.length ≤ 1048576) (hl2 : ys.length ≤ 1048576) :
    Calls Tryd.prog 32 #[.agg #[.int .i64 r1, .slice xa xs.length xc], .agg #[.int .i64 r2, .slice ya ys.length yc]] w fun e w' => e = .returned (.bool (decide (r1 = r2 ∧ xs = ys))) ∧ Upto [] w w' := by
  have hu : Upto [] w ((w.alloc (.cells #[.int .i64 r1, .slice xa xs.length xc] 38)).alloc (.cells #[.int .i64 r2, .slice ya ys.length yc] 38)) := ((Upto.refl _ _).alloc _).alloc _
  have b0 := alloc_old (new_at w (.cells #[.int .i64 r1, .slice xa xs.length xc] 38)) (.cells #[.int .i64 r2, .slice ya ys.length yc] 38)
  have b1 := new_at1 w (.cells #[.int .i64 r1, .slice xa xs.length xc] 38) (.cells #[.int .i64 r2, .slice ya ys.length yc] 38)
  have hx1 := hx.ext hu
  have hy1 := hy.ext hu
  go_enter Tryd.func32, Tryd.ntmps32
  by_cases hr : r1 = r2
  · subst hr
    by_cases hlen : xs.length = ys.length
    · have HL := Lib.hid hlen
      have hlt' : ((xs.length : Int) != ys.length) = false := by simp [hlen]
      clear hlen
      go_wp2_with fail
      obtain ⟨w1, hw1⟩ : ∃ w1, w1 = (w.alloc (.cells #[.int .i64 r1, .slice xa xs.length xc] 38)).alloc (.cells #[.int .i64 r1, .slice ya ys.length yc] 38) := ⟨_, rfl⟩
      rw [← hw1] at hu b0 b1 hx1 hy1 ⊢
      have q0 := cell_of b0 1
      have q1 := cell_of b1 1
      simp at q0 q1
      clear hw1 b0 b1
      go_loopw [5] (fun iv' wr => ∃ i j : Nat, i ≤ xs.length ∧ iv' = .int .i64 i ∧ xs.take i = ys.take i ∧ wr = w1.drewN j) (fun iv' _ => xs.length - (intOf iv').toNat)
      case atStart => exact ⟨0, 0, by omega, rfl, by simp, rfl⟩
      case round =>
        obtain ⟨i, j, hi, rfl, ht, rfl⟩ := hrel
        by_cases hlt : i < xs.length
        · have hlt2 : i < ys.length := by have := HL.out; omega
          rcases hx1 with ⟨h0, _⟩ | ⟨g, o, c, hs, hc⟩
          · simp at h0; rw [h0] at hlt; simp at hlt
          rcases hy1 with ⟨h0, _⟩ | ⟨g2, o2, c2, hs2, hc2⟩
          · simp at h0; rw [h0] at hlt2; simp at hlt2
          simp only [Value.slice.injEq] at hs hs2
          obtain ⟨rfl, -, rfl⟩ := hs
          obtain ⟨rfl, -, rfl⟩ := hs2
          have c0 : w1.cell? ⟨g, o + i, none⟩ = some (.string xs[i]) := hc i (.string xs[i]) (by simp [hlt])
          have c1 : w1.cell? ⟨g2, o2 + i, none⟩ = some (.string ys[i]) := hc2 i (.string ys[i]) (by simp [hlt2])
          have hb := beqS xs[i] ys[i]
          have HT := Lib.hid ht
          by_cases he : xs[i] = ys[i]
          · have hd : (xs[i].toList == ys[i].toList) = true := by rw [hb]; simpa using he
            have HN := Lib.hid (take_next ht hlt hlt2 he)
            clear hb ht he hc hc2
            go_wp2
            go_quiet (fail)
            go_wp2
            go_roundw
            case rel => exact ⟨i + 1, _, by omega, by go_num, HN.out, rfl⟩
            case measure => simp [intOf]; omega
          · have hd : (xs[i].toList == ys[i].toList) = false := by rw [hb]; simpa using he
            have HE := Lib.hid he
            clear hb ht he hc hc2
            go_wp2
            go_quiet (fail)
            go_wp2
            all_goals
              go_ret
              refine ⟨ret_bool ?_, by simpa using hu.drewN (j + nq)⟩
              symm
              simp only [decide_eq_false_iff_not]
              intro h
              subst h
              exact HE.out rfl
        · obtain rfl : i = xs.length := by omega
          have HE : Hid (xs = ys) := by
            have := HL.out
            rw [List.take_length, this, List.take_length] at ht
            exact ht
          clear ht
          go_wp2
          go_ret
          exact ⟨ret_bool (by simp [HE.out]), hu.drewN j⟩
    · have hne : ((xs.length : Int) != ys.length) = true := by simp; omega
      have HL := Lib.hid hlen
      clear hlen
      go_wp2
      all_goals
        go_ret
        refine ⟨ret_bool ?_, hu⟩
        symm
        simp only [decide_eq_false_iff_not]
        intro h
        exact HL.out (by rw [h])
  · have hne : ¬ (r1 : Int) = r2 := by omega
    have HR := Lib.hid hr
    clear hr
    go_wp2
    all_goals
      go_ret
      refine ⟨ret_bool ?_, hu⟩
      symm
      simp only [decide_eq_false_iff_not]
      intro h
      exact HR.out h.1

set_option maxRecDepth 100000 in
set_option maxHeartbeats 1600000 in
/-- the pool's Equal -/
theorem equal_calls (p q r1 r2 : Nat) (xs ys : List ByteArray) (S T : List Nat) (w : World) (hp : PoolX w p r1 xs S) (hq : PoolX w q r2 ys T) :
    Calls Tryd.prog 31 #[.pointer (some ⟨p, 0, none⟩), .pointer (some ⟨q, 0, none⟩)] w fun e w' => e = .returned (.bool (decide (r1 = r2 ∧ xs = ys))) ∧ Upto [] w w' := by
  have hlx := hp.info.2.1
  have hly := hq.info.2.1
  obtain ⟨mb, sv, hp⟩ := hp
  obtain ⟨mb2, sv2, hq⟩ := hq
  obtain ⟨sa, sc, hsv, _⟩ := ownsRow_len hp.row
  obtain ⟨sa2, sc2, hsv2, _⟩ := ownsRow_len hq.row
  have c0 := cell_of hp.blk 0
  have c2 := cell_of hp.blk 2
  have d0 := cell_of hq.blk 0
  have d2 := cell_of hq.blk 2
  simp at c0 c2 d0 d2
  have hx := SlC.of_row hp.row
  have hy := SlC.of_row hq.row
  rw [hsv] at c2 hx
  rw [hsv2] at d2 hy
  go_enter Tryd.func31, Tryd.ntmps31
  go_wp2_with fail
  by_cases hr : r1 = r2
  · subst hr
    have HE := Lib.hid (fun n => eqS sa sa2 sc sc2 xs ys (w.drewN n) (hx.ext ((Upto.refl [] w).drewN n)) (hy.ext ((Upto.refl [] w).drewN n)) hlx hly)
    go_quiet ((go_at_call 40; exact Calls.quiet_of (HE.out _)))
    go_wp2
    all_goals
      go_ret
      exact ⟨ret_bool (by simp), (Upto.refl [] w).drewN nq⟩
  · have hd : ((r1 : Int) == r2) = false := by simp; omega
    go_quiet (fail)
    go_wp2
    all_goals
      go_ret
      exact ⟨ret_bool (by simp [hr]), (Upto.refl [] w).drewN nq⟩
end Go.Proofs.YtffnkjlobflhcaaDoor
