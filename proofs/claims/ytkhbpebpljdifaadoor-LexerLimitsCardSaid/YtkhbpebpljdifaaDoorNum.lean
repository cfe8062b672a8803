/- Numbers: ParseUint of digits with 31 bits; the lexer's and the reference's number. -/
import Derived.Test.YtkhbpebpljdifaaDoorProg
import Derived.Test.YtkhbpebpljdifaaDoorCls
import Derived.Test.YtkhbpebpljdifaaDoorExt
import Derived.Test.YtkhbpebpljdifaaDoorShelf
import Derived.BigQuiet
import Derived.Deep.DeepCutAuto
import Derived.Deep.CutBlock
import Derived.Lib.Strings
import Derived.Lib.Walk
import Derived.Lib.ConvBytes
import Derived.Lib.ParseIntBMem
import Derived.Lib.AtoiErrMem
import Derived.Lib.BufferWrite
import Derived.Lib.UnsafeStr
import Derived.Lib.IfaceEq
import Derived.Laws.MakeOwn
import Derived.Laws.Strings3
import Derived.Laws.Closers25
import Derived.Laws.Closers25b
import Derived.RegionTactic
import Derived.Deep.RegionWith
import Derived.BigCall
import Derived.BigGuard
namespace Go.Proofs.YtkhbpebpljdifaaDoor
open Go.RowKit Go.PL Go.Maps Go.Shelf

theorem ext_of {w w' : World} (h : Below w.heap.size w w') : Upto [] w w' := Upto.of_below h

/-- the number of a run of digits, as ParseUint reckons it -/
theorem parse_digits : ∀ (l : List UInt8) (acc : Nat), (∀ x ∈ l, lxDigit x = true) → acc ≤ 2147483647 →
    Go.Lib.parseUintM 2147483647 acc l = if acc * 10 ^ l.length + lxNum l ≤ 2147483647 then .ok (acc * 10 ^ l.length + lxNum l) else .range
  | [], acc, _, h => by simp [Go.Lib.parseUintM, lxNum, h]
  | c :: l, acc, hd, h => by
    have hc := hd c (by simp)
    simp only [lxDigit, Bool.and_eq_true, decide_eq_true_eq] at hc
    have h1 : ¬ 1844674407370955162 ≤ acc := by omega
    have e : acc * 10 ^ (l.length + 1) + lxNum (c :: l) = (acc * 10 + (c.toNat - 48)) * 10 ^ l.length + lxNum l := by
      rw [lxNum_cons, Nat.pow_succ, Nat.add_mul, Nat.mul_comm (10 ^ l.length) 10, Nat.mul_assoc]
      omega
    rw [Go.Lib.parseUintM, if_pos hc, if_neg h1, List.length_cons, e]
    by_cases hov : 2147483647 < acc * 10 + (c.toNat - 48)
    · rw [if_pos hov, if_neg]
      have hp : 1 ≤ 10 ^ l.length := Nat.pos_of_ne_zero (by simp)
      have : (acc * 10 + (c.toNat - 48)) * 1 ≤ (acc * 10 + (c.toNat - 48)) * 10 ^ l.length := Nat.mul_le_mul_left _ hp
      omega
    · rw [if_neg hov, parse_digits l _ (fun x hx => hd x (by simp [hx])) (by omega)]

set_option maxRecDepth 100000 in
set_option maxHeartbeats 8000000 in
theorem parse96 (t : ByteArray) (hne : t.size ≠ 0) (hmax : t.size ≤ 9223372036854775806) (hdg : ∀ x ∈ t.data.toList, lxDigit x = true) (w : World) :
    Calls Tryd.prog 96 #[.string t, .int .i64 10, .int .i64 31] w fun e w' => e = .returned (Lib.uintTupleM 160 2147483647 (Lib.parseUintM 2147483647 0 t.data.toList)) ∧ w' = Lib.bytesWorld w 5 t := by
  have hemp : t.toList.isEmpty = false := by
    rw [← decide_eq_emptyBytes]
    exact decide_eq_false (fun h => hne (by rw [h]; rfl))
  have hcv := Lib.run_convert_string_bytes (P := Tryd.prog) w 9 38 5 t (u := .string) Tryd.underlying9 Tryd.underlying38 Tryd.underlying5
  have hB : ∀ j, j < t.size → (Lib.bytesWorld w 5 t).cell? ⟨w.heap.size, j, none⟩ = some (.int .u8 (t.data.toList.getD j 0).toNat) := fun j hj => Lib.bytesWorld_cell w 5 t j hj
  obtain ⟨W1, hW1⟩ : ∃ W1, W1 = Lib.bytesWorld w 5 t := ⟨_, rfl⟩
  rw [← hW1] at hcv hB ⊢
  clear hW1
  obtain ⟨bs, hL⟩ : ∃ bs, bs = t.data.toList := ⟨_, rfl⟩
  have hLn : bs.length = t.size := by rw [hL, Lib.size_eq]
  rw [← hL] at hB hdg ⊢
  clear hL
  have hmv : IntKind.u64.wrap (IntKind.u64.wrap 2147483648 - 1) = 2147483647 := by
    rw [IntKind.wrap_u64, IntKind.wrap_u64]
    decide
  have HDG := Lib.hid hdg
  clear hdg
  go_enter Tryd.func96, Tryd.ntmps96
  go_wp2
  go_loop [12, 13, 101] (fun vu vn vi => ∃ (k acc : Nat) (a : Int), vu = .bool false ∧ vn = .int .u64 a ∧ vi = .int .i64 k ∧ k ≤ t.size ∧ Hid (a = (acc : Int) ∧ acc ≤ 2147483647 ∧ Lib.parseUintM 2147483647 0 bs = Lib.parseUintM 2147483647 acc (bs.drop k)))
    (fun _ _ vi => t.size - (intOf vi).toNat)
  case atStart => exact ⟨0, 0, 0, rfl, rfl, rfl, by omega, Lib.hid ⟨rfl, by omega, rfl⟩⟩
  case round =>
    obtain ⟨k, acc, a, rfl, rfl, rfl, hk, hh⟩ := hrel
    obtain ⟨ha, hacc, hdec⟩ := hh.out
    clear hh
    have a0 : 0 ≤ a := by omega
    have a1 : a ≤ 2147483647 := by omega
    by_cases hkn : k < t.size
    · have hc := hB k hkn
      have hdrop : bs.drop k = bs[k]'(by omega) :: bs.drop (k + 1) := List.drop_eq_getElem_cons (by omega)
      have hget : bs.getD k 0 = bs[k]'(by omega) := by simp [List.getD, List.getElem?_eq_getElem (show k < bs.length by omega)]
      have hdig := HDG.out _ (List.getElem_mem (show k < bs.length by omega))
      rw [hdrop] at hdec
      rw [hget] at hc
      generalize bs[k]'(by omega) = c at hc hdec hdig
      simp only [lxDigit, Bool.and_eq_true, decide_eq_true_eq] at hdig
      have hc256 : c.toNat < 256 := c.toNat_lt
      clear hB hdrop hget
      obtain ⟨hd0, hd1⟩ := hdig
      have hcut : ¬ 1844674407370955162 ≤ acc := by omega
      by_cases hov : 2147483647 < acc * 10 + (c.toNat - 48)
      · have hF : Lib.parseUintM 2147483647 acc (c :: bs.drop (k + 1)) = .range := by simp [Lib.parseUintM, hd0, hd1, hcut, hov]
        rw [hF] at hdec
        have iov : 2147483647 < a * 10 + ((c.toNat : Int) - 48) := by omega
        clear hcut hacc hF hov ha
        go_wp2
        go_ret2
        exact ⟨rfl, rfl⟩
      · have hF : Lib.parseUintM 2147483647 acc (c :: bs.drop (k + 1)) = Lib.parseUintM 2147483647 (acc * 10 + (c.toNat - 48)) (bs.drop (k + 1)) := by simp [Lib.parseUintM, hd0, hd1, hcut, hov]
        have HN : Hid (a * 10 + ((c.toNat : Int) - 48) = ((acc * 10 + (c.toNat - 48) : Nat) : Int) ∧ acc * 10 + (c.toNat - 48) ≤ 2147483647 ∧ Lib.parseUintM 2147483647 0 bs = Lib.parseUintM 2147483647 (acc * 10 + (c.toNat - 48)) (bs.drop (k + 1))) := Lib.hid ⟨by omega, by omega, hdec.trans hF⟩
        have iov : a * 10 + ((c.toNat : Int) - 48) ≤ 2147483647 := by omega
        clear hcut hacc hF hov hdec ha
        go_wp2
        refine ⟨⟨k + 1, acc * 10 + (c.toNat - 48), a * 10 + ((c.toNat : Int) - 48), rfl, (by first | rfl | (congr 1; omega)), (by first | rfl | (congr 1; omega)), by omega, HN⟩, by simp [intOf]; omega⟩
    · have hkk : k = t.size := by omega
      subst hkk
      have hF : Lib.parseUintM 2147483647 acc (bs.drop t.size) = .ok acc := by rw [List.drop_eq_nil_of_le (by omega)]; rfl
      rw [hF] at hdec
      subst ha
      clear hacc hF a0 a1
      go_wp2
      go_ret2
      exact ⟨rfl, rfl⟩

set_option maxHeartbeats 4000000 in
set_option maxRecDepth 100000 in
theorem clone_calls (s : ByteArray) (w : World) (h0 : s.size ≠ 0) (hlim : s.size ≤ 281474976710656) :
    Calls Tryd.prog 113 #[.string s] w fun e w' => e = .returned (.string s) ∧ Below w.heap.size w w' := by
  obtain ⟨i0, hi, hz0, hz1, hz2⟩ := info_parts (show (Tryd.prog.info? 5).map (fun i => (i.zero, i.size, i.bytes)) = some (some (.int .u8 0), 1, 1) by kernel_rfl)
  have hinfo : (Tryd.prog.info? 5).map (·.size) = some 1 := by rw [hi]; simp [hz1]
  have hco : Tryd.prog.cellsOf 5 = 1 := by simp [Program.cellsOf, hi, hz1]
  obtain ⟨M, hM⟩ : ∃ M, M = madeCells (Value.int .u8 0).cells (((s.size : Nat) : Int).toNat * i0.size) := ⟨_, rfl⟩
  have hMs : M.size = s.size := by rw [hM, size_madeCells, hz1]; simp
  have hmk : ∀ W : World, (Instr.makeSlice 38 (.int .i64 (s.size : Int)) (.int .i64 (s.size : Int))).run Tryd.prog W = .ok (.slice (some ⟨W.heap.size, 0, none⟩) s.size s.size) (W.alloc (.cells M 5)) := fun W => by
    have h := run_make (P := Tryd.prog) W 38 5 i0 (.int .u8 0) Tryd.underlying38 hi hz0 .i64 .i64 (s.size : Int) (s.size : Int) (by omega) (by omega) (by rw [hz2]; omega) (by omega)
    rw [← hM] at h
    simpa using h
  clear hM
  have hcp := Lib.run_copy_row_string (P := Tryd.prog) (w.alloc (.cells M 5)) 38 9 3 5 w.heap.size 0 s.size s.size s M 5 Tryd.underlying38 hinfo (heap_alloc_new w _) (Nat.le_refl _) (by omega)
  obtain ⟨Y, hY⟩ : ∃ Y, Y = (M.toList.take 0 ++ Lib.byteCells s.data.toList ++ M.toList.drop (0 + s.size)).toArray := ⟨_, rfl⟩
  rw [← hY] at hcp
  have hYl : Y.toList = Lib.byteCells s.data.toList := by
    rw [hY, List.toList_toArray, List.take_zero, List.nil_append, List.drop_of_length_le (by rw [Array.length_toList]; omega), List.append_nil]
  have hYs : Y.size = s.size := by rw [← Array.length_toList, hYl, Lib.byteCells_length, ← Lib.size_eq]
  have hgY : ((w.alloc (.cells M 5)).setRow w.heap.size Y).heap[w.heap.size]? = some (.cells Y 5 (0, 0)) := setRow_heap _ _ M _ 5 (0, 0) (heap_alloc_new w _)
  have hne : s.data.toList ≠ [] := fun e => h0 (by rw [Lib.size_eq, e]; rfl)
  have hUS := Lib.run_unsafeString_row (P := Tryd.prog) ((w.alloc (.cells M 5)).setRow w.heap.size Y) 138 3 9 5 Tryd.underlying138 hco w.heap.size Y.size (by unfold World.shape?; rw [hgY]) s.data.toList hne (by rw [← Lib.size_eq]; omega) (by rw [← Lib.size_eq]; omega)
    (fun j x hx => Lib.cells_of_row hgY Y.size j _ (by rw [List.take_of_length_le (by rw [Array.length_toList]; exact Nat.le_refl _), hYl]; simp [Lib.byteCells, hx]))
  rw [← Lib.size_eq] at hUS
  clear hY
  go_enter Tryd.func113, Tryd.ntmps113
  go_wp2
  go_ret
  have hb1 : Below w.heap.size w (w.alloc (.cells M 5)) := (Below.refl _ w).alloc (Nat.le_refl _) _
  have hb2 : Below w.heap.size (w.alloc (.cells M 5)) ((w.alloc (.cells M 5)).setRow w.heap.size Y) := ⟨rfl, rfl, rfl, by simp, fun k hk => setRow_other _ _ _ _ (by omega)⟩
  exact ⟨rfl, Lib.below_freeze (hb1.trans hb2) (p := ⟨w.heap.size, 0, none⟩) (Nat.le_refl _) _⟩

set_option maxHeartbeats 6400000 in
set_option maxRecDepth 100000 in
theorem range_calls (fn s : ByteArray) (te : TypeId) (pe : Value) (w : World) (h0 : s.size ≠ 0) (hlim : s.size ≤ 281474976710656) (hv : w.cell? ⟨5, 0, none⟩ = some (.iface te pe)) :
    Calls Tryd.prog 108 #[.string fn, .string s] w fun e w' => ∃ N, e = .returned (.pointer (some ⟨N, 0, none⟩)) ∧ Below w.heap.size w w' := by
  have hG : 5 < w.heap.size := Lib.lt_of_cell hv
  have hvd : w.drew.cell? ⟨5, 0, none⟩ = some (.iface te pe) := hv
  go_enter Tryd.func108, Tryd.ntmps108
  go_wp2
  go_region_with (
      go_at_call 113
      refine (clone_calls s _ h0 hlim).mono ?_
      rintro e w2 ⟨rfl, hbel⟩
      have hv2 : w2.cell? ⟨5, 0, none⟩ = some (.iface te pe) := (hbel.cell (show (⟨5, 0, none⟩ : Addr).block < w.drew.heap.size from hG)).trans hvd)
  all_goals (
    go_wp2
    go_ret
    have hs2 : w.heap.size ≤ w2.heap.size := hbel.size
    exact ⟨_, rfl, ((Below.drew (Below.refl _ w)).trans hbel).alloc hs2 _⟩)

set_option maxHeartbeats 4000000 in
set_option maxRecDepth 100000 in
theorem toErr_calls (fn s : ByteArray) (base bits : Int) (te : TypeId) (pe : Value) (w : World) (h0 : s.size ≠ 0) (hlim : s.size ≤ 281474976710656) (hv : w.cell? ⟨5, 0, none⟩ = some (.iface te pe)) :
    Calls Tryd.prog 97 #[.string fn, .string s, .int .i64 base, .int .i64 bits, .iface 160 (.int .i64 1)] w fun e w' => ∃ N, e = .returned (.iface 163 (.pointer (some ⟨N, 0, none⟩))) ∧ Below w.heap.size w w' := by
  have hq12 : ∀ W, (binOp .eql 112 (.iface 160 (.int .i64 1)) (.iface 160 (.int .i64 2))).run Tryd.prog W = .ok (.bool false) W := fun W => Lib.run_eql_iface_int W 1 2 Tryd.underlying112 (by kernel_rfl) Tryd.underlying160
  have hq11 : ∀ W, (binOp .eql 112 (.iface 160 (.int .i64 1)) (.iface 160 (.int .i64 1))).run Tryd.prog W = .ok (.bool true) W := fun W => Lib.run_eql_iface_int W 1 1 Tryd.underlying112 (by kernel_rfl) Tryd.underlying160
  have HR := Lib.hid (range_calls fn s te pe w h0 hlim hv)
  clear hv
  go_enter Tryd.func97, Tryd.ntmps97
  go_wp2_with fail
  refine HR.out.mono ?_
  rintro e w2 ⟨N, rfl, h3⟩
  clear hq12 hq11
  go_wp2
  go_ret
  exact ⟨N, rfl, h3⟩

set_option maxHeartbeats 4000000 in
set_option maxRecDepth 100000 in
/-- strconv.ParseUint of digits, 31 bits -/
theorem parse86 (s : List UInt8) (hs : s ≠ []) (hl : s.length ≤ 281474976710656) (hdg : ∀ x ∈ s, lxDigit x = true) (te : TypeId) (pe : Value) (w : World) (hv : w.cell? ⟨5, 0, none⟩ = some (.iface te pe)) :
    Calls Tryd.prog 86 #[.string ⟨s.toArray⟩, .int .i64 10, .int .i64 31] w fun e w' => Upto [] w w' ∧ ((lxNum s ≤ 2147483647 ∧ e = .returned (.tuple #[.int .u64 (lxNum s : Nat), .nilIface])) ∨ (2147483647 < lxNum s ∧ ∃ N, e = .returned (.tuple #[.int .u64 2147483647, .iface 163 (.pointer (some ⟨N, 0, none⟩))]))) := by
  have hsz : (ByteArray.mk s.toArray).size = s.length := rfl
  have hl0 : s.length ≠ 0 := fun h => hs (List.eq_nil_of_length_eq_zero h)
  have H := parse96 ⟨s.toArray⟩ hl0 (by rw [hsz]; omega) hdg w
  have hb := ext_of (Lib.bytesWorld_below w 5 ⟨s.toArray⟩)
  rw [parse_digits _ 0 hdg (by omega), Nat.zero_mul, Nat.zero_add] at H
  generalize Lib.bytesWorld w 5 ⟨s.toArray⟩ = W1 at *
  have hv1 : W1.cell? ⟨5, 0, none⟩ = some (.iface te pe) := (hb.cell (World.block_lt_of_cell? w _ hv) (by simp)).trans hv
  clear hdg hsz
  by_cases hn : lxNum s ≤ 2147483647
  · rw [if_pos hn] at H
    simp only [Lib.uintTupleM] at H
    have HH := Lib.hid H
    clear H hv hv1
    go_enter Tryd.func86, Tryd.ntmps86
    go_wp2_with fail
    refine HH.out.mono ?_
    rintro e w1 ⟨rfl, rfl⟩
    go_wp2
    go_ret2
    exact ⟨hb, Or.inl ⟨hn, rfl⟩⟩
  · rw [if_neg hn] at H
    simp only [Lib.uintTupleM] at H
    have HH := Lib.hid H
    have HT := Lib.hid (toErr_calls ⟨#[80, 97, 114, 115, 101, 85, 105, 110, 116]⟩ ⟨s.toArray⟩ 10 31 te pe W1 hl0 (show s.length ≤ _ from hl) hv1)
    clear H hv hv1
    go_enter Tryd.func86, Tryd.ntmps86
    go_wp2_with fail
    refine HH.out.mono ?_
    rintro e w1 ⟨rfl, rfl⟩
    go_wp2_with fail
    refine HT.out.mono ?_
    rintro e w2 ⟨N, rfl, h3⟩
    go_wp2
    go_ret2
    exact ⟨hb.trans_ext (ext_of h3), Or.inr ⟨by omega, N, rfl⟩⟩
end Go.Proofs.YtkhbpebpljdifaaDoor
