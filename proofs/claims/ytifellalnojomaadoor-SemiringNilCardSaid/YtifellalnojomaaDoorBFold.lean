/- Sums and products over slices of bools; copies of a bool. -/
import Derived.Test.YtifellalnojomaaDoorRingI
import Derived.Test.YtifellalnojomaaDoorKnown
import Derived.Deep.DeepCutAuto
import Derived.Deep.CutBlock
namespace Go.Proofs.YtifellalnojomaaDoor
open Go.RowKit Go.PL Go.Maps

theorem take_any (xs : List Bool) (k : Nat) (h : k < xs.length) : (xs.take (k + 1)).any id = ((xs.take k).any id || xs[k]) := by
  rw [List.take_succ_eq_append_getElem h, List.any_append]
  simp only [List.any_cons, List.any_nil, id, Bool.or_false]
theorem take_all (xs : List Bool) (k : Nat) (h : k < xs.length) : (xs.take (k + 1)).all id = ((xs.take k).all id && xs[k]) := by
  rw [List.take_succ_eq_append_getElem h, List.all_append]
  simp only [List.all_cons, List.all_nil, id, Bool.and_true]

set_option maxRecDepth 100000 in
set_option maxHeartbeats 1600000 in
theorem half_nil_b (f : FuncId) (cap : Array Value) (w : World) :
    Calls Tryd.prog 70 #[.nilIface, .func (.func f) #[] cap] w fun e w' => e = .returned (.bool false) ∧ Upto [] w w' := by
  have qn : ∀ w, (binOp .eql 72 .nilIface .nilIface).run Tryd.prog w = .ok (.bool true) w := fun _ => by kernel_rfl
  go_enter Tryd.func70, Tryd.ntmps70
  go_wp2
  go_ret
  exact ⟨rfl, Upto.refl _ _⟩

set_option maxRecDepth 100000 in
set_option maxHeartbeats 1600000 in
theorem bsum1 (sa : Option Addr) (sc pl : Nat) (xs : List Bool) (w : World) (hln : xs.length ≤ 100000000) (bl : w.heap[pl]? = some (.cells #[.slice sa xs.length sc] 103)) (hel : SlC w (.slice sa xs.length sc) (xs.map Value.bool)) :
    Calls Tryd.prog 88 #[.iface 23 (.agg #[]), .pointer (some ⟨pl, 0, none⟩)] w fun e w' => e = .returned (.bool (xs.any id)) ∧ Upto [] w w' := by
  have hel2 : xs = [] ∨ ∃ g o, sa = some ⟨g, o, none⟩ ∧ ∀ k x, xs[k]? = some x → w.cell? ⟨g, o + k, none⟩ = some (.bool x) := by
    rcases hel with ⟨h, _⟩ | ⟨g, o, c, he, hc⟩
    · exact Or.inl (by simpa using h)
    · refine Or.inr ⟨g, o, by simp at he; exact he.1, fun k x h => hc k _ (by simp [h])⟩
  clear hel
  have mZ : ∀ w, (method 292 23 (.agg #[]) "Zero").run Tryd.prog w = .ok (11, .agg #[]) w := fun _ => by kernel_rfl
  have mA : ∀ w, (method 292 23 (.agg #[]) "Add").run Tryd.prog w = .ok (13, .agg #[]) w := fun _ => by kernel_rfl
  have ql := cell_of bl 0
  simp only [List.getElem?_toArray, List.getElem?_cons_zero] at ql
  have hpl := lt_of_heap bl
  generalize hlen : xs.length = ln at *
  have HL := Lib.hid hlen
  clear hlen
  go_enter Tryd.func88, Tryd.ntmps88
  go_wp2_with fail
  refine (bzero_is w).mono ?_
  rintro e w1 ⟨rfl, hu1⟩
  have q2 := (hu1.cell (p := ⟨pl, 0, none⟩) hpl (by simp)).trans ql
  clear ql
  go_wp2_with fail
  go_loopw [4, 11] (fun v i wr => ∃ k : Nat, k ≤ ln ∧ i = .int .i64 k ∧ v = .bool ((xs.take k).any id) ∧ Upto [] w wr) (fun _ i _ => ln - (intOf i).toNat)
  case atStart => exact ⟨0, by omega, rfl, by simp, hu1⟩
  case round =>
    obtain ⟨k, hk, rfl, rfl, hU⟩ := hrel
    clear q2
    rcases Nat.lt_or_ge k ln with hlt | hge
    · rcases hel2 with rfl | ⟨g, o, rfl, hc⟩
      · have := HL.out
        simp at this
        omega
      · have hkl : k < xs.length := by rw [HL.out]; exact hlt
        have hc0 := (hU.cell (p := ⟨g, o + k, none⟩) (World.block_lt_of_cell? w _ (hc k _ (List.getElem?_eq_getElem hkl))) (by simp)).trans (hc k _ (List.getElem?_eq_getElem hkl))
        have HT := Lib.hid (take_any xs k hkl)
        generalize xs[k] = xk at *
        generalize (xs.take k).any id = sk at *
        have hltI : (k : Int) < ln := by omega
        have hk0 : (0 : Int) ≤ k := by omega
        have hkb : (k : Int) ≤ 100000000 := by omega
        clear hc hkl
        go_wp2_with fail
        refine (badd_is sk xk _).mono ?_
        rintro e w5 ⟨rfl, hu5⟩
        go_wp2_with fail
        go_roundw
        case rel => exact ⟨k + 1, by omega, by go_num, by rw [HT.out], hU.trans_ext hu5⟩
        case measure => simp [intOf]; omega
    · obtain rfl : k = ln := by omega
      have hgeI : (k : Int) ≥ k := by omega
      have HE : Hid ((xs.take k).any id = xs.any id) := Lib.hid (by rw [← HL.out, List.take_length])
      rw [HE.out]
      clear hel2
      go_wp2
      go_ret
      exact ⟨rfl, hU⟩

set_option maxRecDepth 100000 in
set_option maxHeartbeats 1600000 in
theorem bsum_half (sa : Option Addr) (sc pl : Nat) (xs : List Bool) (w : World) (hln : xs.length ≤ 100000000) (bl : w.heap[pl]? = some (.cells #[.slice sa xs.length sc] 103)) (hel : SlC w (.slice sa xs.length sc) (xs.map Value.bool)) :
    Calls Tryd.prog 70 #[.iface 23 (.agg #[]), .func (.func 88) #[] #[.pointer (some ⟨pl, 0, none⟩)]] w fun e w' => e = .returned (.bool (xs.any id)) ∧ Upto [] w w' := by
  have HQ := Lib.hid (bsum1 sa sc pl xs w hln bl hel)
  clear bl hel
  have qn : ∀ w, (binOp .eql 72 (.iface 23 (.agg #[])) .nilIface).run Tryd.prog w = .ok (.bool false) w := fun _ => by kernel_rfl
  go_enter Tryd.func70, Tryd.ntmps70
  go_wp2_with fail
  refine HQ.out.mono ?_
  rintro e w1 ⟨rfl, hu1⟩
  go_wp2
  go_ret
  exact ⟨rfl, hu1⟩

set_option maxRecDepth 100000 in
set_option maxHeartbeats 1600000 in
theorem bsum_calls (sa : Option Addr) (sc : Nat) (xs : List Bool) (w : World) (hln : xs.length ≤ 100000000) (hel : SlC w (.slice sa xs.length sc) (xs.map Value.bool)) :
    Calls Tryd.prog 60 #[.iface 23 (.agg #[]), .slice sa xs.length sc] w fun e w' => e = .returned (.bool (xs.any id)) ∧ Upto [] w w' := by
  have hu : Upto [] w (w.alloc (.cells #[.slice sa xs.length sc] 103)) := (Upto.refl [] w).alloc _
  have HQ := Lib.hid (bsum_half sa sc w.heap.size xs _ hln (new_at w (.cells #[.slice sa xs.length sc] 103)) (SlC.ext hel hu))
  clear hel
  generalize xs.length = ln at *
  generalize xs.any id = r at *
  go_enter Tryd.func60, Tryd.ntmps60
  go_wp2_with fail
  refine HQ.out.mono ?_
  rintro e w1 ⟨rfl, hu1⟩
  go_wp2
  go_ret
  exact ⟨rfl, hu.trans_ext hu1⟩

set_option maxRecDepth 100000 in
set_option maxHeartbeats 1600000 in
theorem bsum_nil (sa : Option Addr) (ln sc : Nat) (w : World) :
    Calls Tryd.prog 60 #[.nilIface, .slice sa ln sc] w fun e w' => e = .returned (.bool false) ∧ Upto [] w w' := by
  have hu : Upto [] w (w.alloc (.cells #[.slice sa ln sc] 103)) := (Upto.refl [] w).alloc _
  have H := Lib.hid (half_nil_b 88 #[.pointer (some ⟨w.heap.size, 0, none⟩)])
  go_enter Tryd.func60, Tryd.ntmps60
  go_wp2_with fail
  refine (H.out _).mono ?_
  rintro e w1 ⟨rfl, hu1⟩
  go_wp2
  go_ret
  exact ⟨rfl, hu.trans_ext hu1⟩

set_option maxRecDepth 100000 in
set_option maxHeartbeats 1600000 in
theorem bprod1 (sa : Option Addr) (sc pl : Nat) (xs : List Bool) (w : World) (hln : xs.length ≤ 100000000) (bl : w.heap[pl]? = some (.cells #[.slice sa xs.length sc] 103)) (hel : SlC w (.slice sa xs.length sc) (xs.map Value.bool)) :
    Calls Tryd.prog 89 #[.iface 23 (.agg #[]), .pointer (some ⟨pl, 0, none⟩)] w fun e w' => e = .returned (.bool (xs.all id)) ∧ Upto [] w w' := by
  have hel2 : xs = [] ∨ ∃ g o, sa = some ⟨g, o, none⟩ ∧ ∀ k x, xs[k]? = some x → w.cell? ⟨g, o + k, none⟩ = some (.bool x) := by
    rcases hel with ⟨h, _⟩ | ⟨g, o, c, he, hc⟩
    · exact Or.inl (by simpa using h)
    · refine Or.inr ⟨g, o, by simp at he; exact he.1, fun k x h => hc k _ (by simp [h])⟩
  clear hel
  have mZ : ∀ w, (method 292 23 (.agg #[]) "One").run Tryd.prog w = .ok (12, .agg #[]) w := fun _ => by kernel_rfl
  have mA : ∀ w, (method 292 23 (.agg #[]) "Mul").run Tryd.prog w = .ok (14, .agg #[]) w := fun _ => by kernel_rfl
  have ql := cell_of bl 0
  simp only [List.getElem?_toArray, List.getElem?_cons_zero] at ql
  have hpl := lt_of_heap bl
  generalize hlen : xs.length = ln at *
  have HL := Lib.hid hlen
  clear hlen
  go_enter Tryd.func89, Tryd.ntmps89
  go_wp2_with fail
  refine (bone_is w).mono ?_
  rintro e w1 ⟨rfl, hu1⟩
  have q2 := (hu1.cell (p := ⟨pl, 0, none⟩) hpl (by simp)).trans ql
  clear ql
  go_wp2_with fail
  go_loopw [4, 11] (fun v i wr => ∃ k : Nat, k ≤ ln ∧ i = .int .i64 k ∧ v = .bool ((xs.take k).all id) ∧ Upto [] w wr) (fun _ i _ => ln - (intOf i).toNat)
  case atStart => exact ⟨0, by omega, rfl, by simp, hu1⟩
  case round =>
    obtain ⟨k, hk, rfl, rfl, hU⟩ := hrel
    clear q2
    rcases Nat.lt_or_ge k ln with hlt | hge
    · rcases hel2 with rfl | ⟨g, o, rfl, hc⟩
      · have := HL.out
        simp at this
        omega
      · have hkl : k < xs.length := by rw [HL.out]; exact hlt
        have hc0 := (hU.cell (p := ⟨g, o + k, none⟩) (World.block_lt_of_cell? w _ (hc k _ (List.getElem?_eq_getElem hkl))) (by simp)).trans (hc k _ (List.getElem?_eq_getElem hkl))
        have HT := Lib.hid (take_all xs k hkl)
        generalize xs[k] = xk at *
        generalize (xs.take k).all id = sk at *
        have hltI : (k : Int) < ln := by omega
        have hk0 : (0 : Int) ≤ k := by omega
        have hkb : (k : Int) ≤ 100000000 := by omega
        clear hc hkl
        go_wp2_with fail
        refine (bmul_is sk xk _).mono ?_
        rintro e w5 ⟨rfl, hu5⟩
        go_wp2_with fail
        go_roundw
        case rel => exact ⟨k + 1, by omega, by go_num, by rw [HT.out], hU.trans_ext hu5⟩
        case measure => simp [intOf]; omega
    · obtain rfl : k = ln := by omega
      have hgeI : (k : Int) ≥ k := by omega
      have HE : Hid ((xs.take k).all id = xs.all id) := Lib.hid (by rw [← HL.out, List.take_length])
      rw [HE.out]
      clear hel2
      go_wp2
      go_ret
      exact ⟨rfl, hU⟩

set_option maxRecDepth 100000 in
set_option maxHeartbeats 1600000 in
theorem bprod_half (sa : Option Addr) (sc pl : Nat) (xs : List Bool) (w : World) (hln : xs.length ≤ 100000000) (bl : w.heap[pl]? = some (.cells #[.slice sa xs.length sc] 103)) (hel : SlC w (.slice sa xs.length sc) (xs.map Value.bool)) :
    Calls Tryd.prog 70 #[.iface 23 (.agg #[]), .func (.func 89) #[] #[.pointer (some ⟨pl, 0, none⟩)]] w fun e w' => e = .returned (.bool (xs.all id)) ∧ Upto [] w w' := by
  have HQ := Lib.hid (bprod1 sa sc pl xs w hln bl hel)
  clear bl hel
  have qn : ∀ w, (binOp .eql 72 (.iface 23 (.agg #[])) .nilIface).run Tryd.prog w = .ok (.bool false) w := fun _ => by kernel_rfl
  go_enter Tryd.func70, Tryd.ntmps70
  go_wp2_with fail
  refine HQ.out.mono ?_
  rintro e w1 ⟨rfl, hu1⟩
  go_wp2
  go_ret
  exact ⟨rfl, hu1⟩

set_option maxRecDepth 100000 in
set_option maxHeartbeats 1600000 in
theorem bprod_calls (sa : Option Addr) (sc : Nat) (xs : List Bool) (w : World) (hln : xs.length ≤ 100000000) (hel : SlC w (.slice sa xs.length sc) (xs.map Value.bool)) :
    Calls Tryd.prog 61 #[.iface 23 (.agg #[]), .slice sa xs.length sc] w fun e w' => e = .returned (.bool (xs.all id)) ∧ Upto [] w w' := by
  have hu : Upto [] w (w.alloc (.cells #[.slice sa xs.length sc] 103)) := (Upto.refl [] w).alloc _
  have HQ := Lib.hid (bprod_half sa sc w.heap.size xs _ hln (new_at w (.cells #[.slice sa xs.length sc] 103)) (SlC.ext hel hu))
  clear hel
  generalize xs.length = ln at *
  generalize xs.all id = r at *
  go_enter Tryd.func61, Tryd.ntmps61
  go_wp2_with fail
  refine HQ.out.mono ?_
  rintro e w1 ⟨rfl, hu1⟩
  go_wp2
  go_ret
  exact ⟨rfl, hu.trans_ext hu1⟩

set_option maxRecDepth 100000 in
set_option maxHeartbeats 1600000 in
theorem bprod_nil (sa : Option Addr) (ln sc : Nat) (w : World) :
    Calls Tryd.prog 61 #[.nilIface, .slice sa ln sc] w fun e w' => e = .returned (.bool false) ∧ Upto [] w w' := by
  have hu : Upto [] w (w.alloc (.cells #[.slice sa ln sc] 103)) := (Upto.refl [] w).alloc _
  have H := Lib.hid (half_nil_b 89 #[.pointer (some ⟨w.heap.size, 0, none⟩)])
  go_enter Tryd.func61, Tryd.ntmps61
  go_wp2_with fail
  refine (H.out _).mono ?_
  rintro e w1 ⟨rfl, hu1⟩
  go_wp2
  go_ret
  exact ⟨rfl, hu.trans_ext hu1⟩

set_option maxRecDepth 100000 in
set_option maxHeartbeats 1600000 in
/-- n copies of a bool, at most most -/
theorem bagain_calls (a : Bool) (n most : Int) (w : World) (hn : -9223372036854775808 ≤ n ∧ n ≤ 9223372036854775807) (hm : 0 < most ∧ most ≤ 65536) :
    Calls Tryd.prog 90 #[.bool a, .int .i64 n, .int .i64 most] w fun e w' => ∃ sa sc, e = .returned (.slice sa (max 0 (min n most)).toNat sc) ∧ SlC w' (.slice sa (max 0 (min n most)).toNat sc) (List.replicate (max 0 (min n most)).toNat (.bool a)) ∧ Upto [] w w' := by
  obtain ⟨i0, hi0, hz0, hz1, hz2⟩ := info_parts (show (Tryd.prog.info? 4).map (fun i => (i.zero, i.size, i.bytes)) = some (some (.bool false), 1, 1) by kernel_rfl)
  generalize hc : (max 0 (min n most)).toNat = ln
  have hb : ln ≤ 65536 := by omega
  have HI := Lib.hid hi0
  have HZ0 := Lib.hid hz0
  have HZ1 := Lib.hid hz1
  have HZ2 := Lib.hid hz2
  clear hi0 hz0 hz1 hz2
  have hcase : (n < 0 ∧ ln = 0) ∨ (n = 0 ∧ ln = 0) ∨ (0 < n ∧ n < most ∧ n = (ln : Int)) ∨ (0 < n ∧ n = most ∧ n = (ln : Int)) ∨ (0 < n ∧ most < n ∧ most = (ln : Int)) := by omega
  clear hc
  rcases hcase with ⟨h1, rfl⟩ | ⟨rfl, rfl⟩ | ⟨h1, h2, rfl⟩ | ⟨h1, rfl, rfl⟩ | ⟨h1, h2, rfl⟩
  · skip
    go_enter Tryd.func90, Tryd.ntmps90
    go_wp2_with fail
    go_loopw [7, 12] (fun v i wr => ∃ k : Nat, k ≤ 0 ∧ i = .int .i64 k ∧ ∃ sb sc, v = .slice sb k sc ∧ wr.ownsRow 0 4 1 (.slice sb k sc) k (List.replicate k (.bool a)) ∧ Upto [] w wr ∧ ∀ g, (Value.slice sb k sc).ownBlock = some g → w.heap.size ≤ g) (fun _ i _ => 0 - (intOf i).toNat)
    case atStart => exact ⟨0, by omega, rfl, none, 0, rfl, ⟨by simp, Or.inl ⟨rfl, rfl⟩⟩, Upto.refl _ _, fun g hg => by cases hg⟩
    case round =>
      obtain ⟨k, hk, rfl, sb, sc, rfl, hro, hU, hown⟩ := hrel
      rcases Nat.lt_or_ge k 0 with hlt | hge
      · omega
      · obtain rfl : k = 0 := by omega
        go_wp2
        go_ret
        exact ⟨_, _, rfl, SlC.of_row hro, hU⟩

  · skip
    go_enter Tryd.func90, Tryd.ntmps90
    go_wp2_with fail
    go_loopw [7, 12] (fun v i wr => ∃ k : Nat, k ≤ 0 ∧ i = .int .i64 k ∧ ∃ sb sc, v = .slice sb k sc ∧ wr.ownsRow 0 4 1 (.slice sb k sc) k (List.replicate k (.bool a)) ∧ Upto [] w wr ∧ ∀ g, (Value.slice sb k sc).ownBlock = some g → w.heap.size ≤ g) (fun _ i _ => 0 - (intOf i).toNat)
    case atStart => exact ⟨0, by omega, rfl, none, 0, rfl, ⟨by simp, Or.inl ⟨rfl, rfl⟩⟩, Upto.refl _ _, fun g hg => by cases hg⟩
    case round =>
      obtain ⟨k, hk, rfl, sb, sc, rfl, hro, hU, hown⟩ := hrel
      rcases Nat.lt_or_ge k 0 with hlt | hge
      · omega
      · obtain rfl : k = 0 := by omega
        go_wp2
        go_ret
        exact ⟨_, _, rfl, SlC.of_row hro, hU⟩

  · skip
    go_enter Tryd.func90, Tryd.ntmps90
    go_wp2_with fail
    go_loopw [7, 12] (fun v i wr => ∃ k : Nat, k ≤ ln ∧ i = .int .i64 k ∧ ∃ sb sc, v = .slice sb k sc ∧ wr.ownsRow 0 4 1 (.slice sb k sc) k (List.replicate k (.bool a)) ∧ Upto [] w wr ∧ ∀ g, (Value.slice sb k sc).ownBlock = some g → w.heap.size ≤ g) (fun _ i _ => ln - (intOf i).toNat)
    case atStart => exact ⟨0, by omega, rfl, none, 0, rfl, ⟨by simp, Or.inl ⟨rfl, rfl⟩⟩, Upto.refl _ _, fun g hg => by cases hg⟩
    case round =>
      obtain ⟨k, hk, rfl, sb, sc, rfl, hro, hU, hown⟩ := hrel
      rcases Nat.lt_or_ge k ln with hlt | hge
      · have hltI : (k : Int) < (ln : Nat) := by omega
        have hk0 : (0 : Int) ≤ k := by omega
        have hkb : (k : Int) ≤ 65536 := by omega
        go_wp2_with (at_builtin; refine wpList_app _ rfl (.tmp 14) (.tmp 16) 103 rfl 4 i0 (.bool false) 1 1 Tryd.underlying103 HI.out HZ0.out HZ1.out HZ2.out rfl (by decide) (.slice sb k sc) k _ rfl (hro.alloc _) ⟨wr.heap.size, 0, none⟩ 1 1 [.bool a] rfl rfl one_cell (by simp [Value.oneCell']) (by unfold maxLen; omega) (by omega) ?_; intro qa qc w5 ho5 hu5 hw5)
        go_roundw
        case rel => exact ⟨k + 1, by omega, by go_num, qa, qc, rfl, by rw [List.replicate_succ']; exact ho5, (hU.alloc _).trans hu5 (fun b hb => Or.inr (hown b (by simpa using hb))), fun g hg => (hw5 g hg).elim (fun h => hown g h) (fun h => by have := hU.size; simp at h; omega)⟩
        case measure => simp [intOf]; omega
      · obtain rfl : k = ln := by omega
        have hgeI : (k : Int) ≥ (k : Nat) := by omega
        go_wp2
        go_ret
        exact ⟨_, _, rfl, SlC.of_row hro, hU⟩

  · skip
    go_enter Tryd.func90, Tryd.ntmps90
    go_wp2_with fail
    go_loopw [7, 12] (fun v i wr => ∃ k : Nat, k ≤ ln ∧ i = .int .i64 k ∧ ∃ sb sc, v = .slice sb k sc ∧ wr.ownsRow 0 4 1 (.slice sb k sc) k (List.replicate k (.bool a)) ∧ Upto [] w wr ∧ ∀ g, (Value.slice sb k sc).ownBlock = some g → w.heap.size ≤ g) (fun _ i _ => ln - (intOf i).toNat)
    case atStart => exact ⟨0, by omega, rfl, none, 0, rfl, ⟨by simp, Or.inl ⟨rfl, rfl⟩⟩, Upto.refl _ _, fun g hg => by cases hg⟩
    case round =>
      obtain ⟨k, hk, rfl, sb, sc, rfl, hro, hU, hown⟩ := hrel
      rcases Nat.lt_or_ge k ln with hlt | hge
      · have hltI : (k : Int) < (ln : Nat) := by omega
        have hk0 : (0 : Int) ≤ k := by omega
        have hkb : (k : Int) ≤ 65536 := by omega
        go_wp2_with (at_builtin; refine wpList_app _ rfl (.tmp 14) (.tmp 16) 103 rfl 4 i0 (.bool false) 1 1 Tryd.underlying103 HI.out HZ0.out HZ1.out HZ2.out rfl (by decide) (.slice sb k sc) k _ rfl (hro.alloc _) ⟨wr.heap.size, 0, none⟩ 1 1 [.bool a] rfl rfl one_cell (by simp [Value.oneCell']) (by unfold maxLen; omega) (by omega) ?_; intro qa qc w5 ho5 hu5 hw5)
        go_roundw
        case rel => exact ⟨k + 1, by omega, by go_num, qa, qc, rfl, by rw [List.replicate_succ']; exact ho5, (hU.alloc _).trans hu5 (fun b hb => Or.inr (hown b (by simpa using hb))), fun g hg => (hw5 g hg).elim (fun h => hown g h) (fun h => by have := hU.size; simp at h; omega)⟩
        case measure => simp [intOf]; omega
      · obtain rfl : k = ln := by omega
        have hgeI : (k : Int) ≥ (k : Nat) := by omega
        go_wp2
        go_ret
        exact ⟨_, _, rfl, SlC.of_row hro, hU⟩

  · skip
    go_enter Tryd.func90, Tryd.ntmps90
    go_wp2_with fail
    go_loopw [7, 12] (fun v i wr => ∃ k : Nat, k ≤ ln ∧ i = .int .i64 k ∧ ∃ sb sc, v = .slice sb k sc ∧ wr.ownsRow 0 4 1 (.slice sb k sc) k (List.replicate k (.bool a)) ∧ Upto [] w wr ∧ ∀ g, (Value.slice sb k sc).ownBlock = some g → w.heap.size ≤ g) (fun _ i _ => ln - (intOf i).toNat)
    case atStart => exact ⟨0, by omega, rfl, none, 0, rfl, ⟨by simp, Or.inl ⟨rfl, rfl⟩⟩, Upto.refl _ _, fun g hg => by cases hg⟩
    case round =>
      obtain ⟨k, hk, rfl, sb, sc, rfl, hro, hU, hown⟩ := hrel
      rcases Nat.lt_or_ge k ln with hlt | hge
      · have hltI : (k : Int) < (ln : Nat) := by omega
        have hk0 : (0 : Int) ≤ k := by omega
        have hkb : (k : Int) ≤ 65536 := by omega
        go_wp2_with (at_builtin; refine wpList_app _ rfl (.tmp 14) (.tmp 16) 103 rfl 4 i0 (.bool false) 1 1 Tryd.underlying103 HI.out HZ0.out HZ1.out HZ2.out rfl (by decide) (.slice sb k sc) k _ rfl (hro.alloc _) ⟨wr.heap.size, 0, none⟩ 1 1 [.bool a] rfl rfl one_cell (by simp [Value.oneCell']) (by unfold maxLen; omega) (by omega) ?_; intro qa qc w5 ho5 hu5 hw5)
        go_roundw
        case rel => exact ⟨k + 1, by omega, by go_num, qa, qc, rfl, by rw [List.replicate_succ']; exact ho5, (hU.alloc _).trans hu5 (fun b hb => Or.inr (hown b (by simpa using hb))), fun g hg => (hw5 g hg).elim (fun h => hown g h) (fun h => by have := hU.size; simp at h; omega)⟩
        case measure => simp [intOf]; omega
      · obtain rfl : k = ln := by omega
        have hgeI : (k : Int) ≥ (k : Nat) := by omega
        go_wp2
        go_ret
        exact ⟨_, _, rfl, SlC.of_row hro, hU⟩

end Go.Proofs.YtifellalnojomaaDoor
