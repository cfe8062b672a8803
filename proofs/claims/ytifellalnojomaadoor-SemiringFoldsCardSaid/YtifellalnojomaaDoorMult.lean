/- Copies, multiples and powers of a number. -/
import Derived.Test.YtifellalnojomaaDoorFold
namespace Go.Proofs.YtifellalnojomaaDoor
open Go.RowKit Go.PL Go.Maps

set_option maxRecDepth 100000 in
set_option maxHeartbeats 1600000 in
theorem nagain_calls (g : Option Addr) (nn c : Nat) (n most : Int) (w : World) (hn : -9223372036854775808 ≤ n ∧ n ≤ 9223372036854775807) (hm : 0 < most ∧ most ≤ 65536) :
    Calls Tryd.prog 85 #[.agg #[.slice g nn c], .int .i64 n, .int .i64 most] w fun e w' => ∃ sa sc, e = .returned (.slice sa (max 0 (min n most)).toNat sc) ∧ SlC w' (.slice sa (max 0 (min n most)).toNat sc) (List.replicate (max 0 (min n most)).toNat (.slice g nn c)) ∧ Upto [] w w' := by
  obtain ⟨i0, hi0, hz0, hz1, hz2⟩ := info_parts (show (Tryd.prog.info? 45).map (fun i => (i.zero, i.size, i.bytes)) = some (some (.agg #[.slice none 0 0]), 1, 24) by kernel_rfl)
  generalize hc : (max 0 (min n most)).toNat = ln
  have hb : ln ≤ 65536 := by omega
  have HI := Lib.hid hi0
  have HZ0 := Lib.hid hz0
  have HZ1 := Lib.hid hz1
  have HZ2 := Lib.hid hz2
  clear hi0 hz0 hz1 hz2
  have b3 := new_at w (.cells #[.slice g nn c] 45)
  have hup : Upto [] w (w.alloc (.cells #[.slice g nn c] 45)) := (Upto.refl [] w).alloc _
  have hcase : (n < 0 ∧ ln = 0) ∨ (n = 0 ∧ ln = 0) ∨ (0 < n ∧ n < most ∧ n = (ln : Int)) ∨ (0 < n ∧ n = most ∧ n = (ln : Int)) ∨ (0 < n ∧ most < n ∧ most = (ln : Int)) := by omega
  clear hc
  rcases hcase with ⟨h1, rfl⟩ | ⟨rfl, rfl⟩ | ⟨h1, h2, rfl⟩ | ⟨h1, rfl, rfl⟩ | ⟨h1, h2, rfl⟩
  · skip
    go_enter Tryd.func85, Tryd.ntmps85
    go_wp2_with fail
    generalize w.alloc (.cells #[.slice g nn c] 45) = W0 at *
    generalize w.heap.size = sz at *
    go_loopw [7, 12] (fun v i wr => ∃ k : Nat, k ≤ 0 ∧ i = .int .i64 k ∧ ∃ sb sc, v = .slice sb k sc ∧ wr.ownsRow 0 45 1 (.slice sb k sc) k (List.replicate k (.slice g nn c)) ∧ Upto [] W0 wr ∧ ∀ g, (Value.slice sb k sc).ownBlock = some g → W0.heap.size ≤ g) (fun _ i _ => 0 - (intOf i).toNat)
    case atStart => exact ⟨0, by omega, rfl, none, 0, rfl, ⟨by simp, Or.inl ⟨rfl, rfl⟩⟩, Upto.refl _ _, fun g hg => by cases hg⟩
    case round =>
      obtain ⟨k, hk, rfl, sb, sc, rfl, hro, hU, hown⟩ := hrel
      rcases Nat.lt_or_ge k 0 with hlt | hge
      · omega
      · obtain rfl : k = 0 := by omega
        clear b3
        go_wp2
        go_ret
        exact ⟨_, _, rfl, SlC.of_row hro, hup.trans_ext hU⟩
  · skip
    go_enter Tryd.func85, Tryd.ntmps85
    go_wp2_with fail
    generalize w.alloc (.cells #[.slice g nn c] 45) = W0 at *
    generalize w.heap.size = sz at *
    go_loopw [7, 12] (fun v i wr => ∃ k : Nat, k ≤ 0 ∧ i = .int .i64 k ∧ ∃ sb sc, v = .slice sb k sc ∧ wr.ownsRow 0 45 1 (.slice sb k sc) k (List.replicate k (.slice g nn c)) ∧ Upto [] W0 wr ∧ ∀ g, (Value.slice sb k sc).ownBlock = some g → W0.heap.size ≤ g) (fun _ i _ => 0 - (intOf i).toNat)
    case atStart => exact ⟨0, by omega, rfl, none, 0, rfl, ⟨by simp, Or.inl ⟨rfl, rfl⟩⟩, Upto.refl _ _, fun g hg => by cases hg⟩
    case round =>
      obtain ⟨k, hk, rfl, sb, sc, rfl, hro, hU, hown⟩ := hrel
      rcases Nat.lt_or_ge k 0 with hlt | hge
      · omega
      · obtain rfl : k = 0 := by omega
        clear b3
        go_wp2
        go_ret
        exact ⟨_, _, rfl, SlC.of_row hro, hup.trans_ext hU⟩
  · skip
    go_enter Tryd.func85, Tryd.ntmps85
    go_wp2_with fail
    generalize w.alloc (.cells #[.slice g nn c] 45) = W0 at *
    generalize w.heap.size = sz at *
    go_loopw [7, 12] (fun v i wr => ∃ k : Nat, k ≤ ln ∧ i = .int .i64 k ∧ ∃ sb sc, v = .slice sb k sc ∧ wr.ownsRow 0 45 1 (.slice sb k sc) k (List.replicate k (.slice g nn c)) ∧ Upto [] W0 wr ∧ ∀ g, (Value.slice sb k sc).ownBlock = some g → W0.heap.size ≤ g) (fun _ i _ => ln - (intOf i).toNat)
    case atStart => exact ⟨0, by omega, rfl, none, 0, rfl, ⟨by simp, Or.inl ⟨rfl, rfl⟩⟩, Upto.refl _ _, fun g hg => by cases hg⟩
    case round =>
      obtain ⟨k, hk, rfl, sb, sc, rfl, hro, hU, hown⟩ := hrel
      rcases Nat.lt_or_ge k ln with hlt | hge
      · have hltI : (k : Int) < (ln : Nat) := by omega
        have hk0 : (0 : Int) ≤ k := by omega
        have hkb : (k : Int) ≤ 65536 := by omega
        have q3 := cell_of (hU.at b3 (by simp)) 0
        simp only [List.getElem?_toArray, List.getElem?_cons_zero] at q3
        go_wp2_with (at_builtin; refine wpList_app _ rfl (.tmp 14) (.tmp 16) 88 rfl 45 i0 (.agg #[.slice none 0 0]) 1 24 Tryd.underlying88 HI.out HZ0.out HZ1.out HZ2.out rfl (by decide) (.slice sb k sc) k _ rfl (hro.alloc _) ⟨wr.heap.size, 0, none⟩ 1 1 [.slice g nn c] rfl rfl one_cell (by simp [Value.oneCell']) (by unfold maxLen; omega) (by omega) ?_; intro qa qc w5 ho5 hu5 hw5)
        go_roundw
        case rel => exact ⟨k + 1, by omega, by go_num, qa, qc, rfl, by rw [List.replicate_succ']; exact ho5, (hU.alloc _).trans hu5 (fun b hb => Or.inr (hown b (by simpa using hb))), fun g hg => (hw5 g hg).elim (fun h => hown g h) (fun h => by have := hU.size; simp at h; omega)⟩
        case measure => simp [intOf]; omega
      · obtain rfl : k = ln := by omega
        have hgeI : (k : Int) ≥ (k : Nat) := by omega
        clear b3
        go_wp2
        go_ret
        exact ⟨_, _, rfl, SlC.of_row hro, hup.trans_ext hU⟩
  · skip
    go_enter Tryd.func85, Tryd.ntmps85
    go_wp2_with fail
    generalize w.alloc (.cells #[.slice g nn c] 45) = W0 at *
    generalize w.heap.size = sz at *
    go_loopw [7, 12] (fun v i wr => ∃ k : Nat, k ≤ ln ∧ i = .int .i64 k ∧ ∃ sb sc, v = .slice sb k sc ∧ wr.ownsRow 0 45 1 (.slice sb k sc) k (List.replicate k (.slice g nn c)) ∧ Upto [] W0 wr ∧ ∀ g, (Value.slice sb k sc).ownBlock = some g → W0.heap.size ≤ g) (fun _ i _ => ln - (intOf i).toNat)
    case atStart => exact ⟨0, by omega, rfl, none, 0, rfl, ⟨by simp, Or.inl ⟨rfl, rfl⟩⟩, Upto.refl _ _, fun g hg => by cases hg⟩
    case round =>
      obtain ⟨k, hk, rfl, sb, sc, rfl, hro, hU, hown⟩ := hrel
      rcases Nat.lt_or_ge k ln with hlt | hge
      · have hltI : (k : Int) < (ln : Nat) := by omega
        have hk0 : (0 : Int) ≤ k := by omega
        have hkb : (k : Int) ≤ 65536 := by omega
        have q3 := cell_of (hU.at b3 (by simp)) 0
        simp only [List.getElem?_toArray, List.getElem?_cons_zero] at q3
        go_wp2_with (at_builtin; refine wpList_app _ rfl (.tmp 14) (.tmp 16) 88 rfl 45 i0 (.agg #[.slice none 0 0]) 1 24 Tryd.underlying88 HI.out HZ0.out HZ1.out HZ2.out rfl (by decide) (.slice sb k sc) k _ rfl (hro.alloc _) ⟨wr.heap.size, 0, none⟩ 1 1 [.slice g nn c] rfl rfl one_cell (by simp [Value.oneCell']) (by unfold maxLen; omega) (by omega) ?_; intro qa qc w5 ho5 hu5 hw5)
        go_roundw
        case rel => exact ⟨k + 1, by omega, by go_num, qa, qc, rfl, by rw [List.replicate_succ']; exact ho5, (hU.alloc _).trans hu5 (fun b hb => Or.inr (hown b (by simpa using hb))), fun g hg => (hw5 g hg).elim (fun h => hown g h) (fun h => by have := hU.size; simp at h; omega)⟩
        case measure => simp [intOf]; omega
      · obtain rfl : k = ln := by omega
        have hgeI : (k : Int) ≥ (k : Nat) := by omega
        clear b3
        go_wp2
        go_ret
        exact ⟨_, _, rfl, SlC.of_row hro, hup.trans_ext hU⟩
  · skip
    go_enter Tryd.func85, Tryd.ntmps85
    go_wp2_with fail
    generalize w.alloc (.cells #[.slice g nn c] 45) = W0 at *
    generalize w.heap.size = sz at *
    go_loopw [7, 12] (fun v i wr => ∃ k : Nat, k ≤ ln ∧ i = .int .i64 k ∧ ∃ sb sc, v = .slice sb k sc ∧ wr.ownsRow 0 45 1 (.slice sb k sc) k (List.replicate k (.slice g nn c)) ∧ Upto [] W0 wr ∧ ∀ g, (Value.slice sb k sc).ownBlock = some g → W0.heap.size ≤ g) (fun _ i _ => ln - (intOf i).toNat)
    case atStart => exact ⟨0, by omega, rfl, none, 0, rfl, ⟨by simp, Or.inl ⟨rfl, rfl⟩⟩, Upto.refl _ _, fun g hg => by cases hg⟩
    case round =>
      obtain ⟨k, hk, rfl, sb, sc, rfl, hro, hU, hown⟩ := hrel
      rcases Nat.lt_or_ge k ln with hlt | hge
      · have hltI : (k : Int) < (ln : Nat) := by omega
        have hk0 : (0 : Int) ≤ k := by omega
        have hkb : (k : Int) ≤ 65536 := by omega
        have q3 := cell_of (hU.at b3 (by simp)) 0
        simp only [List.getElem?_toArray, List.getElem?_cons_zero] at q3
        go_wp2_with (at_builtin; refine wpList_app _ rfl (.tmp 14) (.tmp 16) 88 rfl 45 i0 (.agg #[.slice none 0 0]) 1 24 Tryd.underlying88 HI.out HZ0.out HZ1.out HZ2.out rfl (by decide) (.slice sb k sc) k _ rfl (hro.alloc _) ⟨wr.heap.size, 0, none⟩ 1 1 [.slice g nn c] rfl rfl one_cell (by simp [Value.oneCell']) (by unfold maxLen; omega) (by omega) ?_; intro qa qc w5 ho5 hu5 hw5)
        go_roundw
        case rel => exact ⟨k + 1, by omega, by go_num, qa, qc, rfl, by rw [List.replicate_succ']; exact ho5, (hU.alloc _).trans hu5 (fun b hb => Or.inr (hown b (by simpa using hb))), fun g hg => (hw5 g hg).elim (fun h => hown g h) (fun h => by have := hU.size; simp at h; omega)⟩
        case measure => simp [intOf]; omega
      · obtain rfl : k = ln := by omega
        have hgeI : (k : Int) ≥ (k : Nat) := by omega
        clear b3
        go_wp2
        go_ret
        exact ⟨_, _, rfl, SlC.of_row hro, hup.trans_ext hU⟩

set_option maxRecDepth 100000 in
set_option maxHeartbeats 1600000 in
theorem nmult_calls (g : Option Addr) (nn c : Nat) (n : Int) (x : Nat) (w : World) (hn : -9223372036854775808 ≤ n ∧ n ≤ 12) (hx : RepN 1 w (.agg #[.slice g nn c]) x) :
    Calls Tryd.prog 54 #[.iface 42 (.agg #[]), .agg #[.slice g nn c], .int .i64 n] w fun e w' => ∃ g n' c, e = .returned (.agg #[.slice g n' c]) ∧ Upto [] w w' ∧ RepN ((max 0 n).toNat + 1) w' (.agg #[.slice g n' c]) ((max 0 n).toNat * x) := by
  have hmx : (max 0 (min n 65536)).toNat = (max 0 n).toNat := by omega
  have HA := Lib.hid (fun u => nagain_calls g nn c n 65536 u (by omega) (by omega))
  rw [hmx] at HA
  have hl : (max 0 n).toNat ≤ 12 := by omega
  generalize (max 0 n).toNat = ln at *
  have b1 := alloc_old (new_at w (.cells #[.slice g nn c] 45)) (.cells #[.slice none 0 0] 45)
  have b3 := new_at1 w (.cells #[.slice g nn c] 45) (.cells #[.slice none 0 0] 45)
  have hup : Upto [] w ((w.alloc (.cells #[.slice g nn c] 45)).alloc (.cells #[.slice none 0 0] 45)) := ((Upto.refl [] w).alloc _).alloc _
  have q1 := cell_of b1 0
  simp only [List.getElem?_toArray, List.getElem?_cons_zero] at q1
  clear hn hmx b1
  go_enter Tryd.func54, Tryd.ntmps54
  go_wp2_with fail
  refine (HA.out _).mono ?_
  rintro e w1 ⟨sa, sc, rfl, hs, hu1⟩
  have hU := hup.trans_ext hu1
  have hse : ln = 0 ∨ ∃ gl ol, sa = some ⟨gl, ol, none⟩ ∧ ∀ k, k < ln → w1.cell? ⟨gl, ol + k, none⟩ = some (.slice g nn c) := by
    rcases hs with ⟨h, _⟩ | ⟨gl, ol, c', he, hc⟩
    · exact Or.inl (by simpa using h)
    · refine Or.inr ⟨gl, ol, by simp at he; exact he.1, fun k hk => hc k _ (by simp [hk])⟩
  obtain ⟨gl, ol, hsa, hel⟩ : ∃ gl ol, (0 < ln → sa = some ⟨gl, ol, none⟩) ∧ ∀ k, k < ln → w1.cell? ⟨gl, ol + k, none⟩ = some (.slice g nn c) := by
    rcases hse with h | ⟨gl, ol, h1, h2⟩
    · exact ⟨0, 0, by omega, fun k hk => by omega⟩
    · exact ⟨gl, ol, fun _ => h1, h2⟩
  have hx1 := ringN.stable _ _ _ _ _ hx hU
  have HS := Lib.hid (N_sum_calls (ln := ln) (J := fun k u g' n' c' => RepN (k + 1) u (.agg #[.slice g' n' c']) (k * x)) (E := fun _ g' n' c' => g' = g ∧ n' = nn ∧ c' = c) sa gl ol sc w1
    (fun k u u' g' n' c' h hu => ringN.stable _ _ _ _ _ h hu) (fun k u u' b g' n' c' h hu hq => ringN.stab2 _ _ _ _ _ _ h hu hq)
    (fun u hu => (ringN.hz u).mono fun e w' ⟨v, h1, h2, h3⟩ => by
      obtain ⟨g', n', c', rfl⟩ := repN_shape _ _ _ _ h3
      exact ⟨g', n', c', h1, h2, by simpa using h3⟩)
    (fun k u g' n' c' ge ne ce hk hu hj he => by
      obtain ⟨rfl, rfl, rfl⟩ := he
      refine (ringN.ha (k + 1) 1 u _ _ _ _ (by omega) hj (ringN.stable _ _ _ _ _ hx1 hu)).mono fun e w' ⟨v, h1, h2, h3⟩ => ?_
      obtain ⟨g2, n2, c2, rfl⟩ := repN_shape _ _ _ _ h3
      refine ⟨g2, n2, c2, h1, h2, ?_⟩
      have hq : (k + 1) * x = k * x + x := by rw [Nat.add_mul, Nat.one_mul]
      rw [hq]
      exact h3)
    (by omega) hsa (fun k hk => ⟨g, nn, c, hel k hk, rfl, rfl, rfl⟩))
  have b4 := hu1.at b3 (by simp)
  clear hs hse hsa hel hx hx1 HA b3 hup q1 hu1
  go_wp2_with fail
  refine HS.out.mono ?_
  rintro e w2 ⟨gr, nr, cr, rfl, hu2, hj⟩
  have c3 := hu2.at b4 (by simp)
  have f3 := free_of c3 0
  have q3 := cell_of c3 0
  simp only [List.getElem?_toArray, List.getElem?_cons_zero] at q3
  have hnu := not_uvN c3
  have hall := hU.trans_ext hu2
  have HJ := Lib.hid hj
  clear c3 b4 hj hU hu2 HS
  go_wp2
  exact bodyPost_ret (v := .agg #[.slice gr nr cr]) (by simp [results, Tryd.results54, go_sem, q3]) rfl ⟨_, _, _, rfl, hall.setCell (p := ⟨w.heap.size + 1, 0, none⟩) (Or.inr (by show _ ≤ w.heap.size + 1; omega)) _, ringN.stab2 _ _ _ _ _ _ HJ.out ((Upto.refl [w.heap.size + 1] w2).setCell (p := ⟨w.heap.size + 1, 0, none⟩) (Or.inl (by simp)) _) hnu⟩

set_option maxRecDepth 100000 in
set_option maxHeartbeats 1600000 in
theorem npow_calls (g : Option Addr) (nn c : Nat) (n : Int) (x : Nat) (w : World) (hn : -9223372036854775808 ≤ n ∧ n ≤ 12) (hx : RepN 1 w (.agg #[.slice g nn c]) x) :
    Calls Tryd.prog 55 #[.iface 42 (.agg #[]), .agg #[.slice g nn c], .int .i64 n] w fun e w' => ∃ g n' c, e = .returned (.agg #[.slice g n' c]) ∧ Upto [] w w' ∧ RepN ((max 0 n).toNat + 1) w' (.agg #[.slice g n' c]) (x ^ (max 0 n).toNat) := by
  have hmx : (max 0 (min n 256)).toNat = (max 0 n).toNat := by omega
  have HA := Lib.hid (fun u => nagain_calls g nn c n 256 u (by omega) (by omega))
  rw [hmx] at HA
  have hl : (max 0 n).toNat ≤ 12 := by omega
  generalize (max 0 n).toNat = ln at *
  have b1 := alloc_old (new_at w (.cells #[.slice g nn c] 45)) (.cells #[.slice none 0 0] 45)
  have b3 := new_at1 w (.cells #[.slice g nn c] 45) (.cells #[.slice none 0 0] 45)
  have hup : Upto [] w ((w.alloc (.cells #[.slice g nn c] 45)).alloc (.cells #[.slice none 0 0] 45)) := ((Upto.refl [] w).alloc _).alloc _
  have q1 := cell_of b1 0
  simp only [List.getElem?_toArray, List.getElem?_cons_zero] at q1
  clear hn hmx b1
  go_enter Tryd.func55, Tryd.ntmps55
  go_wp2_with fail
  refine (HA.out _).mono ?_
  rintro e w1 ⟨sa, sc, rfl, hs, hu1⟩
  have hU := hup.trans_ext hu1
  have hse : ln = 0 ∨ ∃ gl ol, sa = some ⟨gl, ol, none⟩ ∧ ∀ k, k < ln → w1.cell? ⟨gl, ol + k, none⟩ = some (.slice g nn c) := by
    rcases hs with ⟨h, _⟩ | ⟨gl, ol, c', he, hc⟩
    · exact Or.inl (by simpa using h)
    · refine Or.inr ⟨gl, ol, by simp at he; exact he.1, fun k hk => hc k _ (by simp [hk])⟩
  obtain ⟨gl, ol, hsa, hel⟩ : ∃ gl ol, (0 < ln → sa = some ⟨gl, ol, none⟩) ∧ ∀ k, k < ln → w1.cell? ⟨gl, ol + k, none⟩ = some (.slice g nn c) := by
    rcases hse with h | ⟨gl, ol, h1, h2⟩
    · exact ⟨0, 0, by omega, fun k hk => by omega⟩
    · exact ⟨gl, ol, fun _ => h1, h2⟩
  have hx1 := ringN.stable _ _ _ _ _ hx hU
  have HS := Lib.hid (N_prod_calls (ln := ln) (J := fun k u g' n' c' => RepN (k + 1) u (.agg #[.slice g' n' c']) (x ^ k)) (E := fun _ g' n' c' => g' = g ∧ n' = nn ∧ c' = c) sa gl ol sc w1
    (fun k u u' g' n' c' h hu => ringN.stable _ _ _ _ _ h hu) (fun k u u' b g' n' c' h hu hq => ringN.stab2 _ _ _ _ _ _ h hu hq)
    (fun u hu => (ringN.ho u).mono fun e w' ⟨v, h1, h2, h3⟩ => by
      obtain ⟨g', n', c', rfl⟩ := repN_shape _ _ _ _ h3
      exact ⟨g', n', c', h1, h2, by simpa using h3⟩)
    (fun k u g' n' c' ge ne ce hk hu hj he => by
      obtain ⟨rfl, rfl, rfl⟩ := he
      refine (ringN.hm (k + 1) 1 u _ _ _ _ (by omega) hj (ringN.stable _ _ _ _ _ hx1 hu)).mono fun e w' ⟨v, h1, h2, h3⟩ => ?_
      obtain ⟨g2, n2, c2, rfl⟩ := repN_shape _ _ _ _ h3
      refine ⟨g2, n2, c2, h1, h2, ?_⟩
      have hq : x ^ (k + 1) = x ^ k * x := Nat.pow_succ ..
      rw [hq]
      exact h3)
    (by omega) hsa (fun k hk => ⟨g, nn, c, hel k hk, rfl, rfl, rfl⟩))
  have b4 := hu1.at b3 (by simp)
  clear hs hse hsa hel hx hx1 HA b3 hup q1 hu1
  go_wp2_with fail
  refine HS.out.mono ?_
  rintro e w2 ⟨gr, nr, cr, rfl, hu2, hj⟩
  have c3 := hu2.at b4 (by simp)
  have f3 := free_of c3 0
  have q3 := cell_of c3 0
  simp only [List.getElem?_toArray, List.getElem?_cons_zero] at q3
  have hnu := not_uvN c3
  have hall := hU.trans_ext hu2
  have HJ := Lib.hid hj
  clear c3 b4 hj hU hu2 HS
  go_wp2
  exact bodyPost_ret (v := .agg #[.slice gr nr cr]) (by simp [results, Tryd.results55, go_sem, q3]) rfl ⟨_, _, _, rfl, hall.setCell (p := ⟨w.heap.size + 1, 0, none⟩) (Or.inr (by show _ ≤ w.heap.size + 1; omega)) _, ringN.stab2 _ _ _ _ _ _ HJ.out ((Upto.refl [w.heap.size + 1] w2).setCell (p := ⟨w.heap.size + 1, 0, none⟩) (Or.inl (by simp)) _) hnu⟩

end Go.Proofs.YtifellalnojomaaDoor
