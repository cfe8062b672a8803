/- The walk of LexerLimits. -/
import Derived.Test.YtkhbpebpljdifaaDoorSz
import Derived.Laws.OwnMore
import Derived.Laws.MakeOwn
import Derived.Deep.RegionWith
import Derived.IntWalk
namespace Go.Proofs.YtkhbpebpljdifaaDoor
open Go.RowKit Go.PL Go.Maps

/-- a letter and j quotes -/
def nmL (c : UInt8) (j : Nat) : List UInt8 := c :: List.replicate j 39
theorem nmL_len (c : UInt8) (j : Nat) : (nmL c j).length = 1 + j := by simp [nmL]; omega
theorem nmL_snoc (c : UInt8) (j : Nat) : nmL c (j + 1) = nmL c j ++ [39] := by
  simp [nmL, List.replicate_succ']
theorem nm_no_word {c : UInt8} (hc : lxLetter c = true) (j : Nat) : lxWords.contains (nmL c j) = false := by
  have h2 : lxWords.all (fun x => match x with | _ :: b :: _ => decide (b ≠ 39) | _ => false) = true := by kernel_rfl
  cases hw : lxWords.contains (nmL c j) with
  | false => rfl
  | true =>
    have hm : nmL c j ∈ lxWords := by simpa using hw
    have h3 := List.all_eq_true.1 h2 _ hm
    cases j with
    | zero => simp [nmL] at h3
    | succ j => simp [nmL, List.replicate_succ] at h3
theorem nm_classify {c : UInt8} (hc : lxLetter c = true) (j : Nat) : classify (nmL c j) = if 16 < (nmL c j).length then .error 2 else .ok (1, 0) := by
  have hd : lxDigit c = false := by
    simp only [lxLetter, lxDigit, Bool.or_eq_true, Bool.and_eq_true, decide_eq_true_eq] at *
    simp
    omega
  have hw := nm_no_word hc j
  unfold nmL at *
  simp only [classify, hd, hc, hw, Bool.false_eq_true, if_false, Bool.not_true]
theorem nm_inner {c : UInt8} (hc : lxLetter c = true) (j : Nat) : ∀ x ∈ nmL c j, lxInner x = true := by
  intro x hx
  rcases List.mem_cons.1 hx with rfl | hx
  · simp [lxInner, hc]
  · rw [List.eq_of_mem_replicate hx]; decide
theorem nm_lex {c : UInt8} (hc : lxLetter c = true) (j : Nat) (hj : j ≤ 100) : lexT (40 :: nmL c j) = if 16 < (nmL c j).length then .error (1, 2, 2) else .ok [⟨4, [40], 0, 1, 1⟩, ⟨1, nmL c j, 0, 1, 2⟩, ⟨0, [], 0, 1, 2 + (nmL c j).length⟩] := by
  have h1 := lexS_runs (r := nmL c j) (by simp [nmL]) (nm_inner hc j) Starts.nil 1 2
  rw [List.append_nil, nm_classify hc] at h1
  have hl := nmL_len c j
  rw [lexT, if_neg (by simp only [List.length_cons]; omega), lexS_mark (by decide) (by decide)]
  by_cases h : 16 < (nmL c j).length
  · rw [if_pos h] at h1
    rw [if_pos h, h1]
    rfl
  · rw [if_neg h] at h1
    rw [if_neg h, h1]
    rfl
theorem nm_ident {c : UInt8} (hc : lxLetter c = true) (j : Nat) (hj : j ≤ 100) : identF (nmL c j) = decide (¬ 16 < (nmL c j).length) := by
  have hl := nmL_len c j
  rw [ident_name (by omega)]
  have ha : (nmL c j).all lxInner = true := List.all_eq_true.2 (nm_inner hc j)
  have hn : nmL c j ≠ [] := by simp [nmL]
  simp only [nameF, ha, hn, nm_classify hc, Bool.and_true, ne_eq, not_false_eq_true, decide_true, Bool.true_and]
  by_cases h : 16 < (nmL c j).length
  · rw [if_pos h]; simp [h]
  · rw [if_neg h]; simp [h]
theorem blanks_lex : ∃ l c, lexT (List.replicate 65536 32) = .ok [⟨0, [], 0, l, c⟩] := by
  obtain ⟨l, c, h⟩ := lexS_ws (List.replicate 65536 32) [] 1 1 (fun x hx => by rw [List.eq_of_mem_replicate hx]; decide)
  rw [List.append_nil, lexS_nil] at h
  refine ⟨l, c, ?_⟩
  rw [lexT, if_neg (by rw [List.length_replicate]; omega), h]
theorem long_lex (k : Nat) (hk : 0 < k) : lexT (List.replicate 65536 32 ++ List.replicate k 0) = .error (0, 0, 2) := by
  rw [lexT, if_pos (by rw [List.length_append, List.length_replicate, List.length_replicate]; omega)]

theorem info5 : (Tryd.prog.info? 5).map (fun i => (i.zero, i.size, i.bytes)) = some (some (.int .u8 0), 1, 1) := by kernel_rfl

/-- a slice's length -/
def lenV : Value → Nat
  | .slice _ l _ => l
  | _ => 0

/-- the name's bytes in memory -/
structure NmI (w : World) (c : UInt8) (j : Nat) (v : Value) (wr : World) : Prop where
  row : wr.ownsRow 0 5 1 v (1 + j) ((nmL c j).map bv)
  own : ∀ g, v.ownBlock = some g → w.heap.size ≤ g
  up : Upto [] w wr

/-- a block whose first k bytes are blanks -/
def Fill (w : World) (B k : Nat) : Prop := ∃ C, w.heap[B]? = some (.cells C 5 (0, 0)) ∧ C.size = 65536 ∧ ∀ j, j < k → C[j]? = some (.int .u8 32)
theorem Fill.set {w : World} {B k : Nat} (h : Fill w B k) (hk : k < 65536) : Fill (w.setCell ⟨B, k, none⟩ (.int .u8 32)) B (k + 1) := by
  obtain ⟨C, h1, h2, h3⟩ := h
  refine ⟨C.setIfInBounds k (.int .u8 32), set_same h1 k _, by simp [h2], fun j hj => ?_⟩
  by_cases hjk : j = k
  · subst hjk
    simp [Array.getElem?_setIfInBounds, h2, hk]
  · rw [Array.getElem?_setIfInBounds_ne (by omega)]
    exact h3 j (by omega)
theorem Fill.cell {w : World} {B k : Nat} (h : Fill w B k) (i : Nat) (hi : i < 65536) : ∃ x, w.cell? ⟨B, i, none⟩ = some x := by
  obtain ⟨C, h1, h2, h3⟩ := h
  exact ⟨C[i], by rw [cell_of h1, Array.getElem?_eq_getElem]⟩
theorem Fill.free {w : World} {B k : Nat} (h : Fill w B k) (i : Nat) : w.frozen? ⟨B, i, none⟩ = false := by
  obtain ⟨C, h1, h2, h3⟩ := h
  exact free_of h1 i
theorem Fill.ext {w w' : World} {B k : Nat} (h : Fill w B k) (hu : Upto [] w w') : Fill w' B k := by
  obtain ⟨C, h1, h2, h3⟩ := h
  exact ⟨C, hu.at h1 (by simp), h2, h3⟩
theorem Fill.conv {w : World} {B : Nat} (h : Fill w B 65536) {bl : List UInt8} (hbl : bl = List.replicate 65536 32) : (convert 38 9 (.slice (some ⟨B, 0, none⟩) 65536 65536)).run Tryd.prog w = .ok (.string ⟨bl.toArray⟩) w := by
  obtain ⟨C, h1, h2, h3⟩ := h
  have hl : bl.length = 65536 := by rw [hbl, List.length_replicate]
  refine conv_str Tryd.underlying38 Tryd.underlying5 Tryd.underlying9 (Or.inr ⟨B, 0, 65536, by rw [List.length_map, hl], fun j u hj => ?_⟩)
  have hjl : j < 65536 := by
    have := (List.getElem?_eq_some_iff.1 hj).1
    rw [List.length_map, hl] at this
    exact this
  rw [Nat.zero_add, cell_of h1, h3 j hjl]
  rw [hbl, List.getElem?_map, List.getElem?_replicate, if_pos hjl] at hj
  simp only [Option.map_some, Option.some.injEq] at hj
  rw [← hj]
  rfl
theorem zeros_conv {w : World} {B n : Nat} {M : Array Value} (h : w.heap[B]? = some (.cells M 5 (0, 0))) (hM : M.toList = List.replicate n (.int .u8 0)) {zs : List UInt8} (hz : zs = List.replicate n 0) : (convert 38 9 (.slice (some ⟨B, 0, none⟩) n n)).run Tryd.prog w = .ok (.string ⟨zs.toArray⟩) w := by
  have hl : zs.length = n := by rw [hz, List.length_replicate]
  refine conv_str Tryd.underlying38 Tryd.underlying5 Tryd.underlying9 (Or.inr ⟨B, 0, n, by rw [List.length_map, hl], fun j u hj => ?_⟩)
  have hjl : j < n := by
    have := (List.getElem?_eq_some_iff.1 hj).1
    rw [List.length_map, hl] at this
    exact this
  rw [Nat.zero_add, cell_of h, ← Array.getElem?_toList, hM, List.getElem?_replicate, if_pos hjl]
  rw [hz, List.getElem?_map, List.getElem?_replicate, if_pos hjl] at hj
  simp only [Option.map_some, Option.some.injEq] at hj
  rw [← hj]
  rfl
theorem make_bytes (n : Nat) (hn : n ≤ 1000000) : ∃ M : Array Value, M.size = n ∧ M.toList = List.replicate n (.int .u8 0) ∧ ∀ W : World, (Instr.makeSlice 38 (.int .i64 (n : Int)) (.int .i64 (n : Int))).run Tryd.prog W = .ok (.slice (some ⟨W.heap.size, 0, none⟩) n n) (W.alloc (.cells M 5)) := by
  obtain ⟨i0, hi, hz0, hz1, hz2⟩ := info_parts info5
  refine ⟨madeCells (Value.int .u8 0).cells (n * i0.size), by rw [size_madeCells, hz1, Nat.mul_one], ?_, fun W => ?_⟩
  · rw [hz1, Nat.mul_one]
    exact toList_madeCells_one _ _
  · have h := run_make (P := Tryd.prog) W 38 5 i0 (.int .u8 0) Tryd.underlying38 hi hz0 .i64 .i64 (n : Int) (n : Int) (by omega) (by omega) (by rw [hz2]; omega) (by omega)
    simpa using h
theorem zeros_lex {bl : List UInt8} (h : bl = List.replicate 65536 32) {zs : List UInt8} {n : Nat} (hz : zs = List.replicate n 0) (hn : 0 < n) : lexT (bl ++ zs) = .error (0, 0, 2) := by
  rw [h, hz]
  exact long_lex n hn

set_option maxRecDepth 100000 in
set_option maxHeartbeats 12800000 in
theorem lexerLimits_walk (z0 z1 z2 : Int) (hz0 : 0 ≤ z0 ∧ z0 ≤ 255) (hz1 : 0 ≤ z1 ∧ z1 ≤ 255) (hz2 : 0 ≤ z2 ∧ z2 ≤ 65535) (w : World) (he : Env w) : Calls Tryd.prog 8 #[.int .u8 z0, .int .u8 z1, .int .u16 z2] w fun e w' => e = .returned (.bool true) ∧ Upto [] w w' := by
  obtain ⟨ha0, ha1⟩ := hz0
  obtain ⟨hb0, hb1⟩ := hz1
  obtain ⟨hm0, hm1⟩ := hz2
  obtain ⟨n, hn, hnl⟩ : ∃ n : Nat, z1 % 40 = n ∧ n < 40 := ⟨(z1 % 40).toNat, by omega, by omega⟩
  obtain ⟨m, hm, hml⟩ : ∃ m : Nat, z2 % 100 = m ∧ m < 100 := ⟨(z2 % 100).toNat, by omega, by omega⟩
  obtain ⟨f, hf, hfl⟩ : ∃ f : Nat, z0 % 26 = f ∧ f < 26 := ⟨(z0 % 26).toNat, by omega, by omega⟩
  obtain ⟨c, hc⟩ : ∃ c : UInt8, c.toNat = 97 + f := ⟨UInt8.ofNat (97 + f), by rw [UInt8.toNat_ofNat']; omega⟩
  have hlet : lxLetter c = true := by simp [lxLetter, hc]; omega
  have hcv : (97 : Int) + (f : Int) = c.toNat := by omega
  have h0 := Lib.hid he
  have HT := Lib.hid tokenize_calls
  have HK := Lib.hid knownL_calls
  have HID := Lib.hid isIdent_calls
  obtain ⟨i0, hi0, hi1, hi2, hi3⟩ := info_parts info5
  have HI := Lib.hid hi0
  have HZ0 := Lib.hid hi1
  have HZ1 := Lib.hid hi2
  have HZ2 := Lib.hid hi3
  have HLET := Lib.hid hlet
  clear he hi0 hi1 hi2 hi3 hlet
  have hM : NmI w c 0 (.slice (some ⟨w.heap.size, 0, none⟩) 1 1) (w.alloc (.cells #[.int .u8 c.toNat] 5)) := by
    refine ⟨⟨rfl, Or.inr ⟨_, 1, #[.int .u8 c.toNat], rfl, Nat.zero_le _, new_at _ _, Nat.le_refl _, by unfold maxLen; omega, rfl, rfl⟩⟩, fun g hg => ?_, (Upto.refl [] w).alloc _⟩
    simp [Value.ownBlock] at hg
    omega
  have hn0 : (0 : Int) ≤ n := by omega
  have hn1 : (n : Int) ≤ 39 := by omega
  have hf0 : (0 : Int) ≤ f := by omega
  have hf1 : (f : Int) ≤ 25 := by omega
  clear hc
  go_enter Tryd.func8, Tryd.ntmps8
  go_wp2_with fail
  clear hf
  go_loopw [7] (fun v wr => ∃ j : Nat, j ≤ n ∧ NmI w c j v wr) (fun v _ => 50 - lenV v)
  case atStart => exact ⟨0, Nat.zero_le _, hM⟩
  case round =>
    obtain ⟨j, hj, hI⟩ := hrel
    clear hM
    obtain ⟨va, vc, rfl, -⟩ := ownsRow_len hI.row
    have hj0 : (0 : Int) ≤ j := by omega
    rcases Nat.lt_or_ge j n with hlt | hge
    · have hlt' : (1 : Int) + j < 1 + n := by omega
      have hrow := (ownsRow_upto hI.row ((Upto.refl [] wr).alloc (.cells #[.int .u8 39] 5)) (by simp))
      have hsrc := cells_at (l := [.int .u8 39]) (new_at wr (.cells #[.int .u8 39] 5))
      have HII := Lib.hid hI
      have hsn := Lib.hid (nmL_snoc c j)
      clear hI
      go_wp2_with (at_builtin; refine wpList_app _ rfl (.tmp 31) (.tmp 32) 38 rfl 5 i0 (.int .u8 0) 1 1 Tryd.underlying38 HI.out HZ0.out HZ1.out HZ2.out rfl (by decide) (.slice va (1 + j) vc) (1 + j) _ rfl hrow ⟨wr.heap.size, 0, none⟩ 1 1 [.int .u8 39] rfl rfl hsrc (by simp [Value.oneCell']) (by unfold maxLen; omega) (by omega) ?_; intro vb vd w4 ho4 hu4 hw4)
      go_roundw
      case rel =>
        have hua := HII.out.up.alloc (.cells #[.int .u8 39] 5)
        refine ⟨j + 1, by omega, ⟨?_, fun g hg => (hw4 g hg).elim (HII.out.own g) (fun h => Nat.le_trans hua.size h), hua.trans hu4 (fun k hk => Or.inr (HII.out.own k (Option.mem_toList.1 hk)))⟩⟩
        rw [hsn.out, List.map_append]
        exact ho4
      case measure => simp [lenV]; omega
    · have hge' : ¬ (1 : Int) + j < 1 + n := by omega
      obtain rfl : j = n := by omega
      have hup := hI.up
      have hlex := nm_lex HLET.out j (by omega)
      have hid := nm_ident HLET.out j (by omega)
      have hln := nmL_len c j
      have hsl := SlC.of_row hI.row
      have HID2 := Lib.hid (fun u h => HID.out (nmL c j) u h (by omega))
      rw [hid] at HID2
      obtain ⟨lb, cb, hbl⟩ := blanks_lex
      obtain ⟨bl, hbe⟩ : ∃ bl : List UInt8, bl = List.replicate 65536 32 := ⟨_, rfl⟩
      obtain ⟨zs, hze⟩ : ∃ zs : List UInt8, zs = List.replicate (1 + m) 0 := ⟨_, rfl⟩
      have hbl2 := zeros_lex hbe hze (by omega)
      rw [← hbe] at hbl
      have hbll : bl.length = 65536 := by rw [hbe, List.length_replicate]
      have hzsl : zs.length = 1 + m := by rw [hze, List.length_replicate]
      have HBT := Lib.hid (tok_ok hbl (by omega))
      have HZT := Lib.hid (tok_err hbl2 (by rw [List.length_append]; omega) 0 0 2 rfl rfl rfl)
      obtain ⟨MB, hMB1, hMB2, hMB3⟩ := make_bytes 65536 (by omega)
      obtain ⟨MZ, hMZ1, hMZ2, hMZ3⟩ := make_bytes (1 + m) (by omega)
      have HMB := Lib.hid hMB3
      have HMZ := Lib.hid hMZ3
      have HMZ2 := Lib.hid hMZ2
      have HBE := Lib.hid hbe
      have HZE := Lib.hid hze
      have HM := Lib.hid hm
      clear hMB3 hMZ3 hMZ2 hMB2 hbe hze hbl hbl2 hm hid hI
      generalize nmL c j = nm at *
      have hcv := conv_str Tryd.underlying38 Tryd.underlying5 Tryd.underlying9 hsl
      have hcat : (ByteArray.mk #[40] ++ ByteArray.mk nm.toArray) = ⟨(40 :: nm).toArray⟩ := by
        have := ByteArray.mk_append_mk [40] nm
        simpa using this
      have hnsz : (ByteArray.mk nm.toArray).size = nm.length := rfl
      have hnm : (nm.length : Int) ≤ 40 := by omega
      have hnmj : (nm.length : Int) = 1 + j := by omega
      have HSL := Lib.hid hsl
      clear hsl hln
      by_cases h16 : 16 < nm.length
      · rw [if_pos h16] at hlex
        simp only [h16, not_true_eq_false, decide_false] at HID2
        have HT1 := Lib.hid (tok_err hlex (by simp only [List.length_cons]; omega) 1 2 2 rfl rfl rfl)
        have h16' : (16 : Int) < 1 + j := by omega
        clear hlex h16
        go_wp2_with fail
        refine (HT1.out _ (h0.out.ext hup)).mono ?_
        rintro e w1 ⟨rfl, hu1⟩
        have hu2 := (hup.trans_ext hu1).alloc (.cells #[.int .i64 1, .int .i64 2] 24)
        have hb2 := new_at w1 (.cells #[.int .i64 1, .int .i64 2] 24)
        have hcv2 := conv_str Tryd.underlying38 Tryd.underlying5 Tryd.underlying9 ((HSL.out.ext hu1).ext ((Upto.refl [] w1).alloc (.cells #[.int .i64 1, .int .i64 2] 24)))
        clear hcv hu1 hup
        go_wp2_with fail
        refine (HID2.out _ (h0.out.ext hu2)).mono ?_
        rintro e w3 ⟨rfl, hu3⟩
        have hb3 := hu3.at hb2 (by simp)
        have q0 := cell_of hb3 0
        have q1 := cell_of hb3 1
        simp only [List.getElem?_toArray, List.getElem?_cons_zero, List.getElem?_cons_succ] at q0 q1
        have hu4 := hu2.trans_ext hu3
        clear hb2 hb3 hu2 hu3 hcv2
        go_upto_region 10 with fail
        have hmk1 : ∀ W : World, (Instr.makeSlice 38 (.int .i64 65536) (.int .i64 65536)).run Tryd.prog W = .ok (.slice (some ⟨W.heap.size, 0, none⟩) 65536 65536) (W.alloc (.cells MB 5)) := HMB.out
        have hF : Fill (w3.alloc (.cells MB 5)) w3.heap.size 0 := ⟨MB, new_at _ _, hMB1, fun j h => by omega⟩
        have hu5 := hu4.alloc (.cells MB 5)
        have hwB : w.heap.size ≤ w3.heap.size := hu4.size
        go_upto_region 11 with fail
        clear hmk1
        generalize w3.alloc (.cells MB 5) = W5 at *
        generalize w3.heap.size = B at *
        go_wp2_with fail
        go_loopw [13] (fun i wr => ∃ k : Nat, k ≤ 65536 ∧ i = .int .i64 k ∧ Fill wr B k ∧ Upto [] w wr) (fun i _ => 65536 - (intOf i).toNat)
        case atStart => exact ⟨0, by omega, rfl, hF, hu5⟩
        case round =>
          obtain ⟨k, hk, rfl, hFk, hup⟩ := hrel
          clear hF hu5
          rcases Nat.lt_or_ge k 65536 with hlt | hge
          · obtain ⟨x, hx⟩ := hFk.cell k hlt
            have hz := hFk.free k
            have hlt' : (k : Int) < 65536 := by omega
            have hk0 : (0 : Int) ≤ k := by omega
            have hF2 := Lib.hid (hFk.set hlt)
            have hu6 := hup.setCell (p := ⟨B, k, none⟩) (Or.inr hwB) (.int .u8 32)
            clear hFk hup
            go_wp2_with fail
            go_roundw
            case rel => exact ⟨k + 1, by omega, by go_num, hF2.out, hu6⟩
            case measure => simp [intOf]; omega
          · have hge' : ¬ (k : Int) < 65536 := by omega
            obtain rfl : k = 65536 := by omega
            have hcb := hFk.conv HBE.out
            have HFk := Lib.hid hFk
            clear hFk
            go_upto_region 15 with fail
            clear hge' hge hk
            go_wp2_with fail
            refine (HBT.out _ (h0.out.ext hup)).mono ?_
            rintro e w6 ⟨v6, rfl, hv6, hu6⟩
            have hu7 := (hup.trans_ext hu6).alloc (.cells #[.int .i64 0, .int .i64 0] 24)
            have hcb2 := ((HFk.out.ext hu6).ext ((Upto.refl [] w6).alloc (.cells #[.int .i64 0, .int .i64 0] 24))).conv HBE.out
            have hFq := (HFk.out.ext hu6).ext ((Upto.refl [] w6).alloc (.cells #[.int .i64 0, .int .i64 0] 24))
            clear hcb hup hu6 hv6
            go_upto_region 16 with fail
            generalize w6.alloc (.cells #[.int .i64 0, .int .i64 0] 24) = W7 at *
            have hmk2 : ∀ W : World, (Instr.makeSlice 38 (.int .i64 (1 + (m : Int))) (.int .i64 (1 + (m : Int)))).run Tryd.prog W = .ok (.slice (some ⟨W.heap.size, 0, none⟩) (1 + m) (1 + m)) (W.alloc (.cells MZ 5)) := fun W => by
              have := HMZ.out W
              simpa using this
            have hcv : ∀ w', Upto [] W7 w' → (convert 38 9 (.slice (some ⟨B, 0, none⟩) 65536 65536)).run Tryd.prog w' = .ok (.string ⟨bl.toArray⟩) w' := fun w' hu => (hFq.ext hu).conv HBE.out
            have hzg : ∀ (w' : World) (b : Nat), w'.heap[b]? = some (.cells MZ 5 (0, 0)) → (convert 38 9 (.slice (some ⟨b, 0, none⟩) (1 + m) (1 + m))).run Tryd.prog w' = .ok (.string ⟨zs.toArray⟩) w' := fun w' b h => zeros_conv h HMZ2.out HZE.out
            have hz1 := hzg (W7.alloc (.cells MZ 5)).drew _ (new_at W7 (.cells MZ 5))
            have hz2 := hzg ((W7.alloc (.cells MZ 5)).alloc (.cells #[.int .i64 0, .int .i64 0] 24)).drew _ (((Upto.refl [] (W7.alloc (.cells MZ 5))).alloc (.cells #[.int .i64 0, .int .i64 0] 24)).at (new_at W7 (.cells MZ 5)) (by simp))
            have hz3 := hzg ((W7.alloc (.cells #[.int .i64 0, .int .i64 0] 24)).alloc (.cells MZ 5)).drew _ (new_at (W7.alloc (.cells #[.int .i64 0, .int .i64 0] 24)) (.cells MZ 5))
            simp only [World.size_alloc] at hz3
            clear hzg
            have hcl : ¬ ((9223372036854775807 : Int) < 65536 + (1 + m)) := by omega
            have hcat2 : (ByteArray.mk bl.toArray ++ ByteArray.mk zs.toArray) = ⟨(bl ++ zs).toArray⟩ := by rw [ByteArray.mk_append_mk]
            have hs1 : (ByteArray.mk bl.toArray).size = bl.length := rfl
            have hs2 : (ByteArray.mk zs.toArray).size = zs.length := rfl
            have hm2 : z2 % 100 = m := HM.out
            have hm3 : (m : Int) ≤ 99 := by omega
            have hm4 : (0 : Int) ≤ m := by omega
            have hbl3 : (bl.length : Int) = 65536 := by omega
            have hzs3 : (zs.length : Int) = 1 + m := by omega
            have hw1 : IntKind.i64.wrap (1 + (m : Int)) = 1 + m := IntWalk.i64_in _ (by omega)
            have hw0 : IntKind.i64.wrap (m : Int) = m := IntWalk.i64_in _ (by omega)
            have hm5 : z2.tmod 100 = m := by rw [Int.tmod_eq_emod_of_nonneg hm0]; exact hm2
            have hy1 := hcv _ (Upto.refl [] W7).drew
            have hy2 := hcv (W7.alloc (.cells MZ 5)).drew ((Upto.refl [] W7).alloc (.cells MZ 5)).drew
            have hy3 := hcv (W7.alloc (.cells #[.int .i64 0, .int .i64 0] 24)).drew ((Upto.refl [] W7).alloc (.cells #[.int .i64 0, .int .i64 0] 24)).drew
            have hy4 := hcv ((W7.alloc (.cells MZ 5)).alloc (.cells #[.int .i64 0, .int .i64 0] 24)).drew (((Upto.refl [] W7).alloc (.cells MZ 5)).alloc (.cells #[.int .i64 0, .int .i64 0] 24)).drew
            have hy5 := hcv ((W7.alloc (.cells #[.int .i64 0, .int .i64 0] 24)).alloc (.cells MZ 5)).drew (((Upto.refl [] W7).alloc (.cells #[.int .i64 0, .int .i64 0] 24)).alloc (.cells MZ 5)).drew
            clear hcv
            go_region_with ((go_at_call 13; refine (HZT.out _ (h0.out.ext (by first | exact (hu7.alloc _).drew | exact ((hu7.alloc _).alloc _).drew))).mono ?_; rintro e w8 ⟨rfl, hu8⟩; first | (have hB := hu8.at (new_at (W7.alloc (.cells MZ 5)) (.cells #[.int .i64 0, .int .i64 0] 24)) (by simp); (try simp only [World.size_alloc] at hB); have b0 := cell_of hB 0; have b1 := cell_of hB 1; have f0 := free_of hB 0; have f1 := free_of hB 1; have hset0 := set_zero hB 0 (.int .i64 0) rfl; have hset1 := set_zero hB 1 (.int .i64 0) rfl; simp only [List.getElem?_toArray, List.getElem?_cons_zero, List.getElem?_cons_succ] at b0 b1) | (have hB := hu8.at (((Upto.refl [] (W7.alloc (.cells #[.int .i64 0, .int .i64 0] 24))).alloc (.cells MZ 5)).at (new_at W7 (.cells #[.int .i64 0, .int .i64 0] 24)) (by simp)) (by simp); (try simp only [World.size_alloc] at hB); have b0 := cell_of hB 0; have b1 := cell_of hB 1; have f0 := free_of hB 0; have f1 := free_of hB 1; have hset0 := set_zero hB 0 (.int .i64 0) rfl; have hset1 := set_zero hB 1 (.int .i64 0) rfl; simp only [List.getElem?_toArray, List.getElem?_cons_zero, List.getElem?_cons_succ] at b0 b1) | skip))
            all_goals first
              | (have huF := ((hu7.alloc (.cells MZ 5)).drew.trans_ext hu8).alloc (.cells #[.int .i64 0, .int .i64 0] 24)
                 have hB := new_at w8 (.cells #[.int .i64 0, .int .i64 0] 24)
                 go_wp2_with fail
                 refine (HK.out _ (h0.out.ext huF)).mono ?_
                 rintro e wA ⟨rfl, huA⟩
                 have hbA := huA.at hB (by simp)
                 have q0 := cell_of hbA 0
                 have q1 := cell_of hbA 1
                 simp only [List.getElem?_toArray, List.getElem?_cons_zero, List.getElem?_cons_succ] at q0 q1
                 have huB := huF.trans_ext huA
                 clear hB hbA huF huA
                 go_wp2_with fail
                 go_ret
                 exact ⟨rfl, huB⟩)
              | (have huF : Upto [] w w8 := by first | exact ((hu7.alloc (.cells MZ 5)).alloc (.cells #[.int .i64 0, .int .i64 0] 24)).drew.trans_ext hu8 | exact ((hu7.alloc (.cells #[.int .i64 0, .int .i64 0] 24)).alloc (.cells MZ 5)).drew.trans_ext hu8
                 try rw [hset0, hset1]
                 clear b0 b1 f0 f1 hset0 hset1
                 go_wp2_with fail
                 refine (HK.out _ (h0.out.ext huF)).mono ?_
                 rintro e wA ⟨rfl, huA⟩
                 have hbA := huA.at hB (by simp)
                 have q0 := cell_of hbA 0
                 have q1 := cell_of hbA 1
                 simp only [List.getElem?_toArray, List.getElem?_cons_zero, List.getElem?_cons_succ] at q0 q1
                 have huB := huF.trans_ext huA
                 clear hB hbA huF huA
                 go_wp2_with fail
                 go_ret
                 exact ⟨rfl, huB⟩)
      · rw [if_neg h16] at hlex
        simp only [h16, not_false_eq_true, decide_true] at HID2
        have HT1 := Lib.hid (tok_ok hlex (by simp only [List.length_cons]; omega))
        have h16' : ¬ (16 : Int) < 1 + j := by omega
        clear hlex h16
        go_wp2_with fail
        refine (HT1.out _ (h0.out.ext hup)).mono ?_
        rintro e w1 ⟨v1, rfl, hv1, hu1⟩
        obtain ⟨pa, pc, rfl⟩ := hv1.len
        simp only [List.length_cons, List.length_nil]
        have hu2 := (hup.trans_ext hu1).alloc (.cells #[.int .i64 0, .int .i64 0] 24)
        have hcv2 := conv_str Tryd.underlying38 Tryd.underlying5 Tryd.underlying9 ((HSL.out.ext hu1).ext ((Upto.refl [] w1).alloc (.cells #[.int .i64 0, .int .i64 0] 24)))
        clear hcv hu1 hup hv1
        go_wp2_with fail
        refine (HID2.out _ (h0.out.ext hu2)).mono ?_
        rintro e w3 ⟨rfl, hu3⟩
        have hu4 := hu2.trans_ext hu3
        clear hu2 hu3 hcv2
        go_upto_region 10 with fail
        have hmk1 : ∀ W : World, (Instr.makeSlice 38 (.int .i64 65536) (.int .i64 65536)).run Tryd.prog W = .ok (.slice (some ⟨W.heap.size, 0, none⟩) 65536 65536) (W.alloc (.cells MB 5)) := HMB.out
        have hF : Fill (w3.alloc (.cells MB 5)) w3.heap.size 0 := ⟨MB, new_at _ _, hMB1, fun j h => by omega⟩
        have hu5 := hu4.alloc (.cells MB 5)
        have hwB : w.heap.size ≤ w3.heap.size := hu4.size
        go_upto_region 11 with fail
        clear hmk1
        generalize w3.alloc (.cells MB 5) = W5 at *
        generalize w3.heap.size = B at *
        go_wp2_with fail
        go_loopw [13] (fun i wr => ∃ k : Nat, k ≤ 65536 ∧ i = .int .i64 k ∧ Fill wr B k ∧ Upto [] w wr) (fun i _ => 65536 - (intOf i).toNat)
        case atStart => exact ⟨0, by omega, rfl, hF, hu5⟩
        case round =>
          obtain ⟨k, hk, rfl, hFk, hup⟩ := hrel
          clear hF hu5
          rcases Nat.lt_or_ge k 65536 with hlt | hge
          · obtain ⟨x, hx⟩ := hFk.cell k hlt
            have hz := hFk.free k
            have hlt' : (k : Int) < 65536 := by omega
            have hk0 : (0 : Int) ≤ k := by omega
            have hF2 := Lib.hid (hFk.set hlt)
            have hu6 := hup.setCell (p := ⟨B, k, none⟩) (Or.inr hwB) (.int .u8 32)
            clear hFk hup
            go_wp2_with fail
            go_roundw
            case rel => exact ⟨k + 1, by omega, by go_num, hF2.out, hu6⟩
            case measure => simp [intOf]; omega
          · have hge' : ¬ (k : Int) < 65536 := by omega
            obtain rfl : k = 65536 := by omega
            have hcb := hFk.conv HBE.out
            have HFk := Lib.hid hFk
            clear hFk
            go_upto_region 15 with fail
            clear hge' hge hk
            go_wp2_with fail
            refine (HBT.out _ (h0.out.ext hup)).mono ?_
            rintro e w6 ⟨v6, rfl, hv6, hu6⟩
            have hu7 := (hup.trans_ext hu6).alloc (.cells #[.int .i64 0, .int .i64 0] 24)
            have hcb2 := ((HFk.out.ext hu6).ext ((Upto.refl [] w6).alloc (.cells #[.int .i64 0, .int .i64 0] 24))).conv HBE.out
            have hFq := (HFk.out.ext hu6).ext ((Upto.refl [] w6).alloc (.cells #[.int .i64 0, .int .i64 0] 24))
            clear hcb hup hu6 hv6
            go_upto_region 16 with fail
            generalize w6.alloc (.cells #[.int .i64 0, .int .i64 0] 24) = W7 at *
            have hmk2 : ∀ W : World, (Instr.makeSlice 38 (.int .i64 (1 + (m : Int))) (.int .i64 (1 + (m : Int)))).run Tryd.prog W = .ok (.slice (some ⟨W.heap.size, 0, none⟩) (1 + m) (1 + m)) (W.alloc (.cells MZ 5)) := fun W => by
              have := HMZ.out W
              simpa using this
            have hcv : ∀ w', Upto [] W7 w' → (convert 38 9 (.slice (some ⟨B, 0, none⟩) 65536 65536)).run Tryd.prog w' = .ok (.string ⟨bl.toArray⟩) w' := fun w' hu => (hFq.ext hu).conv HBE.out
            have hzg : ∀ (w' : World) (b : Nat), w'.heap[b]? = some (.cells MZ 5 (0, 0)) → (convert 38 9 (.slice (some ⟨b, 0, none⟩) (1 + m) (1 + m))).run Tryd.prog w' = .ok (.string ⟨zs.toArray⟩) w' := fun w' b h => zeros_conv h HMZ2.out HZE.out
            have hz1 := hzg (W7.alloc (.cells MZ 5)).drew _ (new_at W7 (.cells MZ 5))
            have hz2 := hzg ((W7.alloc (.cells MZ 5)).alloc (.cells #[.int .i64 0, .int .i64 0] 24)).drew _ (((Upto.refl [] (W7.alloc (.cells MZ 5))).alloc (.cells #[.int .i64 0, .int .i64 0] 24)).at (new_at W7 (.cells MZ 5)) (by simp))
            have hz3 := hzg ((W7.alloc (.cells #[.int .i64 0, .int .i64 0] 24)).alloc (.cells MZ 5)).drew _ (new_at (W7.alloc (.cells #[.int .i64 0, .int .i64 0] 24)) (.cells MZ 5))
            simp only [World.size_alloc] at hz3
            clear hzg
            have hcl : ¬ ((9223372036854775807 : Int) < 65536 + (1 + m)) := by omega
            have hcat2 : (ByteArray.mk bl.toArray ++ ByteArray.mk zs.toArray) = ⟨(bl ++ zs).toArray⟩ := by rw [ByteArray.mk_append_mk]
            have hs1 : (ByteArray.mk bl.toArray).size = bl.length := rfl
            have hs2 : (ByteArray.mk zs.toArray).size = zs.length := rfl
            have hm2 : z2 % 100 = m := HM.out
            have hm3 : (m : Int) ≤ 99 := by omega
            have hm4 : (0 : Int) ≤ m := by omega
            have hbl3 : (bl.length : Int) = 65536 := by omega
            have hzs3 : (zs.length : Int) = 1 + m := by omega
            have hw1 : IntKind.i64.wrap (1 + (m : Int)) = 1 + m := IntWalk.i64_in _ (by omega)
            have hw0 : IntKind.i64.wrap (m : Int) = m := IntWalk.i64_in _ (by omega)
            have hm5 : z2.tmod 100 = m := by rw [Int.tmod_eq_emod_of_nonneg hm0]; exact hm2
            have hy1 := hcv _ (Upto.refl [] W7).drew
            have hy2 := hcv (W7.alloc (.cells MZ 5)).drew ((Upto.refl [] W7).alloc (.cells MZ 5)).drew
            have hy3 := hcv (W7.alloc (.cells #[.int .i64 0, .int .i64 0] 24)).drew ((Upto.refl [] W7).alloc (.cells #[.int .i64 0, .int .i64 0] 24)).drew
            have hy4 := hcv ((W7.alloc (.cells MZ 5)).alloc (.cells #[.int .i64 0, .int .i64 0] 24)).drew (((Upto.refl [] W7).alloc (.cells MZ 5)).alloc (.cells #[.int .i64 0, .int .i64 0] 24)).drew
            have hy5 := hcv ((W7.alloc (.cells #[.int .i64 0, .int .i64 0] 24)).alloc (.cells MZ 5)).drew (((Upto.refl [] W7).alloc (.cells #[.int .i64 0, .int .i64 0] 24)).alloc (.cells MZ 5)).drew
            clear hcv
            go_region_with ((go_at_call 13; refine (HZT.out _ (h0.out.ext (by first | exact (hu7.alloc _).drew | exact ((hu7.alloc _).alloc _).drew))).mono ?_; rintro e w8 ⟨rfl, hu8⟩; first | (have hB := hu8.at (new_at (W7.alloc (.cells MZ 5)) (.cells #[.int .i64 0, .int .i64 0] 24)) (by simp); (try simp only [World.size_alloc] at hB); have b0 := cell_of hB 0; have b1 := cell_of hB 1; have f0 := free_of hB 0; have f1 := free_of hB 1; have hset0 := set_zero hB 0 (.int .i64 0) rfl; have hset1 := set_zero hB 1 (.int .i64 0) rfl; simp only [List.getElem?_toArray, List.getElem?_cons_zero, List.getElem?_cons_succ] at b0 b1) | (have hB := hu8.at (((Upto.refl [] (W7.alloc (.cells #[.int .i64 0, .int .i64 0] 24))).alloc (.cells MZ 5)).at (new_at W7 (.cells #[.int .i64 0, .int .i64 0] 24)) (by simp)) (by simp); (try simp only [World.size_alloc] at hB); have b0 := cell_of hB 0; have b1 := cell_of hB 1; have f0 := free_of hB 0; have f1 := free_of hB 1; have hset0 := set_zero hB 0 (.int .i64 0) rfl; have hset1 := set_zero hB 1 (.int .i64 0) rfl; simp only [List.getElem?_toArray, List.getElem?_cons_zero, List.getElem?_cons_succ] at b0 b1) | skip))
            all_goals first
              | (have huF := ((hu7.alloc (.cells MZ 5)).drew.trans_ext hu8).alloc (.cells #[.int .i64 0, .int .i64 0] 24)
                 have hB := new_at w8 (.cells #[.int .i64 0, .int .i64 0] 24)
                 go_wp2_with fail
                 refine (HK.out _ (h0.out.ext huF)).mono ?_
                 rintro e wA ⟨rfl, huA⟩
                 have hbA := huA.at hB (by simp)
                 have q0 := cell_of hbA 0
                 have q1 := cell_of hbA 1
                 simp only [List.getElem?_toArray, List.getElem?_cons_zero, List.getElem?_cons_succ] at q0 q1
                 have huB := huF.trans_ext huA
                 clear hB hbA huF huA
                 go_wp2_with fail
                 go_ret
                 exact ⟨rfl, huB⟩)
              | (have huF : Upto [] w w8 := by first | exact ((hu7.alloc (.cells MZ 5)).alloc (.cells #[.int .i64 0, .int .i64 0] 24)).drew.trans_ext hu8 | exact ((hu7.alloc (.cells #[.int .i64 0, .int .i64 0] 24)).alloc (.cells MZ 5)).drew.trans_ext hu8
                 try rw [hset0, hset1]
                 clear b0 b1 f0 f1 hset0 hset1
                 go_wp2_with fail
                 refine (HK.out _ (h0.out.ext huF)).mono ?_
                 rintro e wA ⟨rfl, huA⟩
                 have hbA := huA.at hB (by simp)
                 have q0 := cell_of hbA 0
                 have q1 := cell_of hbA 1
                 simp only [List.getElem?_toArray, List.getElem?_cons_zero, List.getElem?_cons_succ] at q0 q1
                 have huB := huF.trans_ext huA
                 clear hB hbA huF huA
                 go_wp2_with fail
                 go_ret
                 exact ⟨rfl, huB⟩)
end Go.Proofs.YtkhbpebpljdifaaDoor
