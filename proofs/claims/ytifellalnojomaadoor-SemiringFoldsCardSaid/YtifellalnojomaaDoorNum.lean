/- The natural numbers of the semiring: from, zero, one, sum, product, equality. -/
import Derived.Test.YtifellalnojomaaDoorMul
namespace Go.Proofs.YtifellalnojomaaDoor
open Go.RowKit Go.PL Go.Maps

theorem num_set {w : World} {va : Option Addr} {vc n B : Nat} {x : Option Addr} {y z : Nat} {fr : Nat × Nat} (h : NumS w va vc n) (hb : w.heap[B]? = some (.cells #[.slice x y z] 45 fr)) (v : Value) : NumS (w.setCell ⟨B, 0, none⟩ v) va vc n := by
  rcases h with h0 | ⟨g, o, c, hs, hc⟩
  · exact Or.inl h0
  · refine Or.inr ⟨g, o, c, hs, fun j u hj => ?_⟩
    have h1 := hc j u hj
    have hne : g ≠ B := by
      rintro rfl
      have h2 := h1
      rw [cell_of hb] at h2
      have hu : ∃ k : Nat, u = uv k := by
        rw [List.getElem?_map] at hj
        cases hw : (W32 n)[j]? with
        | none => rw [hw] at hj; cases hj
        | some k => rw [hw] at hj; simp at hj; exact ⟨k, hj.symm⟩
      obtain ⟨k, rfl⟩ := hu
      match o + j, h2 with
      | 0, h2 => simp [uv] at h2
      | m + 1, h2 => simp at h2
    exact (((Upto.refl [B] w).setCell (p := ⟨B, 0, none⟩) (Or.inl (by simp)) v).cell (p := ⟨g, o + j, none⟩) (World.block_lt_of_cell? w _ h1) (by simpa using hne)).trans h1

theorem two_val (n : Nat) : valL [n % 4294967296, n / 4294967296] = n := by
  simp only [valL]
  omega

theorem fromW_calls (n : Nat) (hn : n < 18446744073709551616) (w : World) :
    Calls Tryd.prog 33 #[.int .u64 n] w fun e w' => ∃ b, e = .returned (.agg #[.slice (some ⟨b, 0, none⟩) (W32 n).length 2]) ∧ NumS w' (some ⟨b, 0, none⟩) 2 n ∧ Upto [] w w' := by
  refine (from_calls n hn w).mono ?_
  rintro e w' ⟨b, rfl, hb, hc, hu⟩
  have hlt : ∀ x ∈ [n % 4294967296, n / 4294967296], x < 4294967296 := by
    intro x hx
    simp at hx
    rcases hx with rfl | rfl <;> omega
  have hl := trim_len [n % 4294967296, n / 4294967296] hlt
  rw [two_val] at hl
  have e1 : [(n : Int) % 4294967296, (n : Int) / 4294967296] = [n % 4294967296, n / 4294967296].map (fun x : Nat => (x : Int)) := by simp
  rw [e1, hl]
  have hrow : w'.ownsRow 0 49 1 (.slice (some ⟨b, 0, none⟩) 2 2) 2 ([n % 4294967296, n / 4294967296].map uv) :=
    ⟨by simp, .inr ⟨b, 2, #[.int .u32 ((n : Int) % 4294967296), .int .u32 ((n : Int) / 4294967296)], rfl, Nat.zero_le _, hc, by omega, by decide, by simp, by simp [uv]⟩⟩
  have hnum := num_of_row (L := [n % 4294967296, n / 4294967296]) hrow hlt
  rw [two_val] at hnum
  exact ⟨b, rfl, hnum, hu⟩

theorem mul_calls (x y : Nat) (va vb : Option Addr) (ca cb : Nat) (w : World) (ha : NumS w va ca x) (hb : NumS w vb cb y) (hla : (W32 x).length ≤ 100000000000) (hlb : (W32 y).length ≤ 100000000000) :
    Calls Tryd.prog 47 #[.agg #[.slice va (W32 x).length ca], .agg #[.slice vb (W32 y).length cb]] w fun e w' => ∃ g vc, e = .returned (.agg #[.slice (some ⟨g, 0, none⟩) (W32 (x * y)).length vc]) ∧ NumS w' (some ⟨g, 0, none⟩) vc (x * y) ∧ Upto [] w w' := by
  have h := mulRow_calls (W32 x) (W32 y) va vb ca cb w ha hb hla hlb (W32_lt x) (W32_lt y)
  rwa [val_W32, val_W32] at h

set_option maxRecDepth 100000 in
set_option maxHeartbeats 400000 in
theorem nadd_calls (x y : Nat) (va vb : Option Addr) (ca cb : Nat) (w : World) (ha : NumS w va ca x) (hb : NumS w vb cb y) (hla : (W32 x).length ≤ 100000000000) (hlb : (W32 y).length ≤ 100000000000) :
    Calls Tryd.prog 34 #[.agg #[], .agg #[.slice va (W32 x).length ca], .agg #[.slice vb (W32 y).length cb]] w fun e w' => ∃ g vc, e = .returned (.agg #[.slice (some ⟨g, 0, none⟩) (W32 (x + y)).length vc]) ∧ NumS w' (some ⟨g, 0, none⟩) vc (x + y) ∧ Upto [] w w' := by
  have hup : Upto [] w ((((w.alloc (.cells #[] 42)).alloc (.cells #[.slice va (W32 x).length ca] 45)).alloc (.cells #[.slice vb (W32 y).length cb] 45)).alloc (.cells #[.slice none 0 0] 45)) := ((((Upto.refl [] w).alloc _).alloc _).alloc _).alloc _
  have b3 := new_at (((w.alloc (.cells #[] 42)).alloc (.cells #[.slice va (W32 x).length ca] 45)).alloc (.cells #[.slice vb (W32 y).length cb] 45)) (.cells #[.slice none 0 0] 45)
  simp only [World.size_alloc] at b3
  have H := Lib.hid (add_calls x y va vb ca cb _ (ha.ext hup) (hb.ext hup) hla hlb)
  clear ha hb
  go_enter Tryd.func34, Tryd.ntmps34
  go_wp2_with fail
  refine H.out.mono ?_
  rintro e w3 ⟨g, c, rfl, hnum, hu3⟩
  have c3 := hu3.at b3 (by simp)
  have f3 := free_of c3 0
  have q3 := cell_of c3 0
  simp at q3
  have hup3 := hup.trans_ext hu3
  have hset := Lib.hid (fun v => num_set hnum c3 v)
  clear hu3 b3 H c3 hnum
  go_wp2
  exact bodyPost_ret (v := .agg #[.slice (some ⟨g, 0, none⟩) (W32 (x + y)).length c]) (by simp [results, Tryd.results34, go_sem, q3]) rfl ⟨g, c, rfl, hset.out _, hup3.setCell (Or.inr (by simp; omega)) _⟩

set_option maxRecDepth 100000 in
set_option maxHeartbeats 400000 in
theorem nmul_calls (x y : Nat) (va vb : Option Addr) (ca cb : Nat) (w : World) (ha : NumS w va ca x) (hb : NumS w vb cb y) (hla : (W32 x).length ≤ 100000000000) (hlb : (W32 y).length ≤ 100000000000) :
    Calls Tryd.prog 36 #[.agg #[], .agg #[.slice va (W32 x).length ca], .agg #[.slice vb (W32 y).length cb]] w fun e w' => ∃ g vc, e = .returned (.agg #[.slice (some ⟨g, 0, none⟩) (W32 (x * y)).length vc]) ∧ NumS w' (some ⟨g, 0, none⟩) vc (x * y) ∧ Upto [] w w' := by
  have hup : Upto [] w ((((w.alloc (.cells #[] 42)).alloc (.cells #[.slice va (W32 x).length ca] 45)).alloc (.cells #[.slice vb (W32 y).length cb] 45)).alloc (.cells #[.slice none 0 0] 45)) := ((((Upto.refl [] w).alloc _).alloc _).alloc _).alloc _
  have b3 := new_at (((w.alloc (.cells #[] 42)).alloc (.cells #[.slice va (W32 x).length ca] 45)).alloc (.cells #[.slice vb (W32 y).length cb] 45)) (.cells #[.slice none 0 0] 45)
  simp only [World.size_alloc] at b3
  have H := Lib.hid (mul_calls x y va vb ca cb _ (ha.ext hup) (hb.ext hup) hla hlb)
  clear ha hb
  go_enter Tryd.func36, Tryd.ntmps36
  go_wp2_with fail
  refine H.out.mono ?_
  rintro e w3 ⟨g, c, rfl, hnum, hu3⟩
  have c3 := hu3.at b3 (by simp)
  have f3 := free_of c3 0
  have q3 := cell_of c3 0
  simp at q3
  have hup3 := hup.trans_ext hu3
  have hset := Lib.hid (fun v => num_set hnum c3 v)
  clear hu3 b3 H c3 hnum
  go_wp2
  exact bodyPost_ret (v := .agg #[.slice (some ⟨g, 0, none⟩) (W32 (x * y)).length c]) (by simp [results, Tryd.results36, go_sem, q3]) rfl ⟨g, c, rfl, hset.out _, hup3.setCell (Or.inr (by simp; omega)) _⟩

set_option maxRecDepth 100000 in
set_option maxHeartbeats 400000 in
theorem nzero_calls (w : World) : Calls Tryd.prog 37 #[.agg #[]] w fun e w' => ∃ b, e = .returned (.agg #[.slice (some ⟨b, 0, none⟩) (W32 0).length 2]) ∧ NumS w' (some ⟨b, 0, none⟩) 2 0 ∧ Upto [] w w' := by
  have H := Lib.hid (fromW_calls 0 (by omega))
  have hup : Upto [] w ((w.alloc (.cells #[] 42)).alloc (.cells #[.slice none 0 0] 45)) := ((Upto.refl [] w).alloc _).alloc _
  have b1 := new_at1 w (.cells #[] 42) (.cells #[.slice none 0 0] 45)
  go_enter Tryd.func37, Tryd.ntmps37
  go_wp2_with fail
  refine (H.out _).mono ?_
  rintro e w3 ⟨g, rfl, hnum, hu3⟩
  have c3 := hu3.at b1 (by simp)
  have f3 := free_of c3 0
  have q3 := cell_of c3 0
  simp at q3
  have hup3 := hup.trans_ext hu3
  have hset := Lib.hid (fun v => num_set hnum c3 v)
  clear hu3 b1 H c3 hnum
  go_wp2
  exact bodyPost_ret (v := .agg #[.slice (some ⟨g, 0, none⟩) (W32 0).length 2]) (by simp [results, Tryd.results37, go_sem, q3]) rfl ⟨g, rfl, hset.out _, hup3.setCell (Or.inr (by simp)) _⟩

set_option maxRecDepth 100000 in
set_option maxHeartbeats 400000 in
theorem none_calls (w : World) : Calls Tryd.prog 38 #[.agg #[]] w fun e w' => ∃ b, e = .returned (.agg #[.slice (some ⟨b, 0, none⟩) (W32 1).length 2]) ∧ NumS w' (some ⟨b, 0, none⟩) 2 1 ∧ Upto [] w w' := by
  have H := Lib.hid (fromW_calls 1 (by omega))
  have hup : Upto [] w ((w.alloc (.cells #[] 42)).alloc (.cells #[.slice none 0 0] 45)) := ((Upto.refl [] w).alloc _).alloc _
  have b1 := new_at1 w (.cells #[] 42) (.cells #[.slice none 0 0] 45)
  go_enter Tryd.func38, Tryd.ntmps38
  go_wp2_with fail
  refine (H.out _).mono ?_
  rintro e w3 ⟨g, rfl, hnum, hu3⟩
  have c3 := hu3.at b1 (by simp)
  have f3 := free_of c3 0
  have q3 := cell_of c3 0
  simp at q3
  have hup3 := hup.trans_ext hu3
  have hset := Lib.hid (fun v => num_set hnum c3 v)
  clear hu3 b1 H c3 hnum
  go_wp2
  exact bodyPost_ret (v := .agg #[.slice (some ⟨g, 0, none⟩) (W32 1).length 2]) (by simp [results, Tryd.results38, go_sem, q3]) rfl ⟨g, rfl, hset.out _, hup3.setCell (Or.inr (by simp)) _⟩

theorem take_nextN {xs ys : List Nat} {n : Nat} (h : xs.take n = ys.take n) (h1 : n < xs.length) (h2 : n < ys.length) (he : xs[n] = ys[n]) : xs.take (n + 1) = ys.take (n + 1) := by
  rw [List.take_add_one, List.take_add_one, h, List.getElem?_eq_getElem h1, List.getElem?_eq_getElem h2, he]

set_option maxRecDepth 100000 in
set_option maxHeartbeats 800000 in
theorem eqW (xa ya : Option Addr) (xc yc : Nat) (xs ys : List Nat) (w : World) (hx : SlC w (.slice xa xs.length xc) (xs.map uv)) (hy : SlC w (.slice ya ys.length yc) (ys.map uv)) (hl : xs.length ≤ 100000000000) (hl2 : ys.length ≤ 100000000000) :
    Calls Tryd.prog 69 #[.slice xa xs.length xc, .slice ya ys.length yc] w fun e w' => e = .returned (.bool (decide (xs = ys))) ∧ ∃ n, w' = w.drewN n := by
  go_enter Tryd.func69, Tryd.ntmps69
  by_cases hlen : xs.length = ys.length
  · have HL := Lib.hid hlen
    have hlt' : (xs.length : Int) = ys.length := by omega
    go_wp2
    go_loopw [13] (fun iv' wr => ∃ i j : Nat, i ≤ xs.length ∧ iv' = .int .i64 i ∧ xs.take i = ys.take i ∧ wr = w.drewN j) (fun iv' _ => xs.length - (intOf iv').toNat)
    case atStart => exact ⟨0, 0, by omega, rfl, by simp, rfl⟩
    case round =>
      obtain ⟨i, j, hi, rfl, ht, rfl⟩ := hrel
      by_cases hlt : i < xs.length
      · have hlt2 : i < ys.length := by have := HL.out; omega
        rcases hx with ⟨h0, _⟩ | ⟨g, o, c, hs, hc⟩
        · simp at h0; rw [h0] at hlt; simp at hlt
        rcases hy with ⟨h0, _⟩ | ⟨g2, o2, c2, hs2, hc2⟩
        · simp at h0; rw [h0] at hlt2; simp at hlt2
        simp only [Value.slice.injEq] at hs hs2
        obtain ⟨rfl, -, rfl⟩ := hs
        obtain ⟨rfl, -, rfl⟩ := hs2
        have c0 : w.cell? ⟨g, o + i, none⟩ = some (.int .u32 (xs[i] : Nat)) := hc i (uv xs[i]) (by simp [hlt])
        have c1 : w.cell? ⟨g2, o2 + i, none⟩ = some (.int .u32 (ys[i] : Nat)) := hc2 i (uv ys[i]) (by simp [hlt2])
        have HT := Lib.hid ht
        by_cases he : xs[i] = ys[i]
        · have HN := Lib.hid (take_nextN ht hlt hlt2 he)
          rw [← he] at c1
          clear ht he hc hc2
          generalize xs[i] = z at *
          go_wp2
          go_quiet (fail)
          go_wp2
          go_roundw
          case rel => exact ⟨i + 1, _, by omega, by go_num, HN.out, rfl⟩
          case measure => simp [intOf]; omega
        · have HE := Lib.hid he
          have hd : ¬ ((xs[i] : Int) = (ys[i] : Int)) := by omega
          clear ht he hc hc2
          go_wp2
          go_quiet (fail)
          go_wp2
          all_goals
            go_ret
            refine ⟨ret_bool ?_, ⟨_, World.drewN_drewN _ _ _⟩⟩
            symm
            simp only [decide_eq_false_iff_not]
            intro h
            subst h
            exact HE.out rfl
      · obtain rfl : i = xs.length := by omega
        have HE : Hid (xs = ys) := by
          have := HL.out
          rw [List.take_length, this, List.take_length] at ht
          exact ht
        clear ht
        go_wp2
        go_ret
        exact ⟨ret_bool (by simp [HE.out]), ⟨j, rfl⟩⟩
  · have hne : ¬ (xs.length : Int) = ys.length := by omega
    have HL := Lib.hid hlen
    go_wp2
    all_goals
      go_ret
      refine ⟨ret_bool ?_, ⟨0, rfl⟩⟩
      symm
      simp only [decide_eq_false_iff_not]
      intro h
      subst h
      exact HL.out rfl
end Go.Proofs.YtifellalnojomaaDoor
