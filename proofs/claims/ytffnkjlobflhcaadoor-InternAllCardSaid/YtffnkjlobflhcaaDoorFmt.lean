/- strconv.AppendInt at base 36 -/
import Derived.Test.YtffnkjlobflhcaaDoorLib
import Derived.Test.YtffnkjlobflhcaaDoorEnc
namespace Go.Proofs.YtffnkjlobflhcaaDoor
open Go.RowKit Go.PL Go.Maps

theorem infoB : (Tryd.prog.info? 5).map (fun i => (i.zero, i.size, i.bytes)) = some (some (.int .u8 0), 1, 1) := by kernel_rfl
theorem and36 : (bits BinOp.and IntKind.i64 36 35 == 0) = false := by kernel_rfl
theorem zeros99 : Tryd.zeroCells99.size = 65 := by kernel_rfl

theorem dg_at (k : Nat) (hk : k < 36) : ∀ h, (⟨List.toArray (48 :: 49 :: 50 :: 51 :: 52 :: 53 :: 54 :: 55 :: 56 :: 57 :: 97 :: 98 :: 99 :: 100 :: 101 :: 102 :: 103 :: 104 :: 105 :: 106 :: 107 :: 108 :: 109 :: 110 :: 111 :: 112 :: 113 :: 114 :: 115 :: 116 :: 117 :: 118 :: 119 :: 120 :: 121 :: 122 :: [])⟩ : ByteArray)[k]'h = dg k := by
  have key : ∀ a : Fin 36, (⟨List.toArray (48 :: 49 :: 50 :: 51 :: 52 :: 53 :: 54 :: 55 :: 56 :: 57 :: 97 :: 98 :: 99 :: 100 :: 101 :: 102 :: 103 :: 104 :: 105 :: 106 :: 107 :: 108 :: 109 :: 110 :: 111 :: 112 :: 113 :: 114 :: 115 :: 116 :: 117 :: 118 :: 119 :: 120 :: 121 :: 122 :: [])⟩ : ByteArray)[a.val]'a.isLt = dg a := by decide +kernel
  exact fun _ => key ⟨k, hk⟩

/-- what holds at the head of each round: the digits written so far -/
structure FmtAt (w : World) (u j u' : Nat) (cur : Array Value) (ds : List UInt8) (wr : World) : Prop where
  lo : 52 ≤ j
  hi : j ≤ 65
  pow : u' < 36 ^ (j - 52)
  blk : wr.heap[w.heap.size]? = some (.cells cur 99 (0, 0))
  size : cur.size = 65
  drop : cur.toList.drop j = ds.map bv
  enc : enc36 u = enc36 u' ++ ds
  le : u' ≤ u
  up : Upto [] w wr
def FmtR (w : World) (u : Nat) (uv iv : Value) (wr : World) : Prop :=
  ∃ (j u' : Nat) (cur : Array Value) (ds : List UInt8), uv = .int .u64 u' ∧ iv = .int .i64 j ∧ FmtAt w u j u' cur ds wr

theorem set_drop (cur : Array Value) (j : Nat) (v : Value) (h0 : 0 < j) (h : j ≤ cur.size) : (cur.setIfInBounds (j - 1) v).toList.drop (j - 1) = v :: cur.toList.drop j := by
  have hl : j - 1 < (cur.setIfInBounds (j - 1) v).toList.length := by simp; omega
  rw [List.drop_eq_getElem_cons hl]
  congr 1
  · simp
  · rw [Array.toList_setIfInBounds, List.drop_set_of_lt (by omega)]
    congr 1
    omega

theorem FmtAt.step {w : World} {u j u' : Nat} {cur : Array Value} {ds : List UInt8} {wr : World} (h : FmtAt w u j u' cur ds wr) (hge : 36 ≤ u') :
    FmtAt w u (j - 1) (u' / 36) (cur.setIfInBounds (j - 1) (bv (dg (u' % 36)))) (dg (u' % 36) :: ds) (wr.setCell ⟨w.heap.size, j - 1, none⟩ (bv (dg (u' % 36)))) := by
  have hp := h.pow
  have h1 := h.lo
  have h2 := h.hi
  have h3 : 54 ≤ j := by
    rcases Nat.lt_or_ge j 54 with hj | hj
    · have : j = 52 ∨ j = 53 := by omega
      rcases this with rfl | rfl <;> simp at hp <;> omega
    · exact hj
  refine ⟨by omega, by omega, ?_, ?_, by simp [h.size], ?_, ?_, by have := h.le; omega, h.up.setCell (Or.inr (by simp)) _⟩
  · have e : j - 52 = (j - 1 - 52) + 1 := by omega
    rw [e, Nat.pow_succ] at hp
    omega
  · exact set_same h.blk _ _
  · rw [set_drop _ _ _ (by omega) (by rw [h.size]; exact h2), h.drop]
    rfl
  · rw [h.enc, enc36_big hge, List.append_assoc]
    rfl
theorem FmtAt.last {w : World} {u j u' : Nat} {cur : Array Value} {ds : List UInt8} {wr : World} (h : FmtAt w u j u' cur ds wr) (hlt : u' < 36) :
    (wr.setCell ⟨w.heap.size, j - 1, none⟩ (bv (dg u'))).heap[w.heap.size]? = some (.cells (cur.setIfInBounds (j - 1) (bv (dg u'))) 99 (0, 0)) ∧ (cur.setIfInBounds (j - 1) (bv (dg u'))).toList.drop (j - 1) = (enc36 u).map bv := by
  have h1 := h.lo
  refine ⟨set_same h.blk _ _, ?_⟩
  rw [set_drop _ _ _ (by omega) (by rw [h.size]; exact h.hi), h.drop, h.enc, enc36_small hlt]
  rfl

theorem FmtAt.pos {w : World} {u j u' : Nat} {cur : Array Value} {ds : List UInt8} {wr : World} (h : FmtAt w u j u' cur ds wr) : ∃ x, wr.cell? ⟨w.heap.size, j - 1, none⟩ = some x := by
  have h1 := h.lo
  have h2 := h.hi
  have h3 := h.size
  exact ⟨cur[j - 1]'(by omega), by rw [cell_of h.blk, Array.getElem?_eq_getElem (by omega)]⟩
theorem fmt_start (w : World) (u : Nat) (hu : u < 18446744073709551616) : FmtR w u (.int .u64 u) (.int .i64 65) (w.alloc (.cells Tryd.zeroCells99 99)) := by
  refine ⟨65, u, _, [], rfl, rfl, by omega, by omega, ?_, new_at w _, zeros99, ?_, by simp, Nat.le_refl _, (Upto.refl _ _).alloc _⟩
  · have : (36 : Nat) ^ (65 - 52) = 170581728179578208256 := by decide
    omega
  · rw [List.drop_of_length_le (by rw [Array.length_toList, zeros99]; omega)]
    rfl

set_option maxRecDepth 100000 in
set_option maxHeartbeats 1600000 in
theorem fmt_bits (u : Nat) (hu : u < 18446744073709551616) (dst : Value) (n : Nat) (bs : List Value) (w : World) (hd : w.ownsRow 0 5 1 dst n bs) (hn : n ≤ 1099511627776) :
    Calls Tryd.prog 47 #[dst, .int .u64 u, .int .i64 36, .bool false, .bool true] w fun e w' => ∃ va vc, e = .returned (.tuple #[.slice va (n + (enc36 u).length) vc, .string ⟨#[]⟩]) ∧
      Grew w w' 5 1 dst (.slice va (n + (enc36 u).length) vc) (n + (enc36 u).length) (bs ++ (enc36 u).map bv) := by
  have hu1 : (u : Int) ≤ 18446744073709551615 := by omega
  have ha := and36
  go_enter Tryd.func47, Tryd.ntmps47
  go_wp2
  clear ha
  go_loopw [1, 13, 18] (fun uv iv qv wr => FmtR w u uv iv wr) (fun uv _ _ _ => (intOf uv).toNat)
  case atStart => exact fmt_start w u hu
  case round =>
    obtain ⟨j, u', cur, ds, rfl, rfl, h⟩ := hrel
    have hj1 := h.lo
    have hj2 := h.hi
    have hle := h.le
    by_cases hlt : u' < 36
    · have hlt' : (u' : Int) < 36 := by omega
      obtain ⟨x, hc⟩ := h.pos
      have hf : wr.frozen? ⟨w.heap.size, j - 1, none⟩ = false := free_of h.blk _
      have hb := h.last hlt
      have hup := h.up.setCell (p := ⟨w.heap.size, j - 1, none⟩) (Or.inr (Nat.le_refl _)) (bv (dg u'))
      have hcs : cur.size = 65 := h.size
      obtain ⟨m, rfl⟩ : ∃ m, j = m + 1 := ⟨j - 1, by omega⟩
      rw [Nat.add_sub_cancel] at hc hf hb hup
      have hm : (m : Int) < 65 := by omega
      have hm' : m < 65 := by omega
      have hm2 : (m : Int) ≤ 65 := by omega
      have hm3 : ¬ 65 = m := by omega
      have hX := dg_at u' hlt
      have hlen : (enc36 u).length = 65 - m := by
        have := congrArg List.length hb.2
        simp [hcs] at this
        exact this.symm
      have hsl : SlC (wr.setCell ⟨w.heap.size, m, none⟩ (bv (dg u'))) (.slice (some ⟨w.heap.size, m, none⟩) (65 - m) (65 - m)) ((enc36 u).map bv) := by
        refine Or.inr ⟨w.heap.size, m, 65 - m, by simp [hlen], fun i v hi => ?_⟩
        rw [cell_of hb.1, ← hi, ← hb.2, List.getElem?_drop, Array.getElem?_toList]
      have hd' := ownsRow_upto hd hup (by simp)
      have hups : Upto [] w (wr.setCell ⟨w.heap.size, m, none⟩ (.int .u8 ((dg u').toNat : Int))) := hup
      have hsl' : SlC (wr.setCell ⟨w.heap.size, m, none⟩ (.int .u8 ((dg u').toNat : Int))) (.slice (some ⟨w.heap.size, m, none⟩) (65 - m) (65 - m)) ((enc36 u).map bv) := hsl
      have hd2 : (wr.setCell ⟨w.heap.size, m, none⟩ (.int .u8 ((dg u').toNat : Int))).ownsRow 0 5 1 dst n bs := hd'
      have HL : Hid ((List.map bv (enc36 u)).length = 65 - m) := by
        show (List.map bv (enc36 u)).length = 65 - m
        simpa using hlen
      have HL2 := Lib.hid hlen
      clear hle hlt h hj1 hj2 hb hlen hup hsl hd'
      obtain ⟨i0, hi0, hz0, hz1, hz2⟩ := info_parts infoB
      go_wp2_with (at_builtin; refine wpList_apps _ rfl (.tmp 95) (.tmp 97) 84 rfl 5 i0 (.int .u8 0) 1 Tryd.underlying84 hi0 hz0 hz1 hz2 rfl dst n bs rfl hd2 _ _ rfl hsl' (by simp [bv, Value.oneCell']) (by rw [HL.out]; unfold maxLen; omega) (by rw [HL.out]; omega) ?_; intro va vc w2 ho2 hu2 hw2)
      simp only [List.length_map] at ho2 hw2
      go_ret2
      exact ⟨va, vc, rfl, Grew.before hups ⟨ho2, hu2, hw2⟩⟩
    · have hge : (36 : Int) ≤ u' := by omega
      have hub : (u' : Int) ≤ 18446744073709551615 := by omega
      have hm1 : (u' : Int) / 36 * 36 ≤ u' := by omega
      have hm2 : (u' : Int) - u' / 36 * 36 < 36 := by omega
      obtain ⟨x, hc⟩ := h.pos
      have hf : wr.frozen? ⟨w.heap.size, j - 1, none⟩ = false := free_of h.blk _
      have hX : ∀ h, (⟨List.toArray (48 :: 49 :: 50 :: 51 :: 52 :: 53 :: 54 :: 55 :: 56 :: 57 :: 97 :: 98 :: 99 :: 100 :: 101 :: 102 :: 103 :: 104 :: 105 :: 106 :: 107 :: 108 :: 109 :: 110 :: 111 :: 112 :: 113 :: 114 :: 115 :: 116 :: 117 :: 118 :: 119 :: 120 :: 121 :: 122 :: [])⟩ : ByteArray)[u' - u' / 36 * 36]'h = dg (u' % 36) := by
        have e : u' - u' / 36 * 36 = u' % 36 := by omega
        rw [← e]
        exact dg_at _ (by omega)
      clear hlt hle
      go_wp2
      go_roundw
      case rel =>
        exact ⟨j - 1, u' / 36, _, _, by go_num, by go_num, h.step (by omega)⟩
      case measure => simp [intOf]; omega

section
variable (dst : Value) (n : Nat) (bs : List Value) (w : World)

set_option maxHeartbeats 400000 in
theorem append_uint (u : Nat) (hu : u < 18446744073709551616) (hd : w.ownsRow 0 5 1 dst n bs) (hn : n ≤ 1099511627776) :
    Calls Tryd.prog 43 #[dst, .int .u64 u, .int .i64 36] w fun e w' => ∃ va vc, e = .returned (.slice va (n + (enc36 u).length) vc) ∧ Grew w w' 5 1 dst (.slice va (n + (enc36 u).length) vc) (n + (enc36 u).length) (bs ++ (enc36 u).map bv) := by
  have HF := Lib.hid (fmt_bits u hu dst n bs w hd hn)
  go_enter Tryd.func43, Tryd.ntmps43
  go_wp2_with (go_at_call 47; refine HF.out.mono ?_; rintro e w1 ⟨va, vc, rfl, hg⟩)
  go_ret
  exact ⟨va, vc, rfl, hg⟩

set_option maxHeartbeats 400000 in
theorem append_int_pos (u : Nat) (hu : u < 9223372036854775808) (hd : w.ownsRow 0 5 1 dst n bs) (hn : n ≤ 1099511627776) :
    Calls Tryd.prog 42 #[dst, .int .i64 u, .int .i64 36] w fun e w' => ∃ va vc, e = .returned (.slice va (n + (enc36 u).length) vc) ∧ Grew w w' 5 1 dst (.slice va (n + (enc36 u).length) vc) (n + (enc36 u).length) (bs ++ (enc36 u).map bv) := by
  have HF := Lib.hid (append_uint dst n bs w u (by omega) hd hn)
  have hu1 : (u : Int) ≤ 9223372036854775807 := by omega
  have hw : IntKind.u64.wrap (u : Int) = u := by simp [IntKind.wrap, IntKind.signed, IntKind.bits]; omega
  go_enter Tryd.func42, Tryd.ntmps42
  go_wp2_with (go_at_call 43; refine HF.out.mono ?_; rintro e w1 ⟨va, vc, rfl, hg⟩)
  go_ret
  exact ⟨va, vc, rfl, hg⟩

set_option maxRecDepth 100000 in
set_option maxHeartbeats 400000 in
theorem append_int_neg (u : Nat) (h0 : 0 < u) (hu : u ≤ 9223372036854775808) (hd : w.ownsRow 0 5 1 dst n bs) (hn : n ≤ 1099511627775) :
    Calls Tryd.prog 42 #[dst, .int .i64 (-(u : Int)), .int .i64 36] w fun e w' => ∃ va vc, e = .returned (.slice va (n + (1 + (enc36 u).length)) vc) ∧ Grew w w' 5 1 dst (.slice va (n + (1 + (enc36 u).length)) vc) (n + (1 + (enc36 u).length)) (bs ++ (45 :: enc36 u).map bv) := by
  have hu1 : (u : Int) ≤ 9223372036854775808 := by omega
  have h1 : (0 : Int) < u := by omega
  have h2 : -(u : Int) < 0 := by omega
  obtain ⟨i0, hi0, hz0, hz1, hz2⟩ := info_parts infoB
  have hw2 : IntKind.u64.wrap (-IntKind.u64.wrap (-(u : Int))) = u := by simp [IntKind.wrap, IntKind.signed, IntKind.bits]; omega
  go_enter Tryd.func42, Tryd.ntmps42
  go_wp2_with (first | (at_builtin; refine wpList_app _ rfl (.tmp 12) (.tmp 13) 84 rfl 5 i0 (.int .u8 0) 1 1 Tryd.underlying84 hi0 hz0 hz1 hz2 rfl (by decide) dst n bs rfl (hd.alloc _) ⟨w.heap.size, 0, none⟩ 1 1 [.int .u8 45] rfl rfl one_cell (by simp [Value.oneCell']) (by unfold maxLen; omega) (by omega) ?_; intro va vc w2 ho2 hu2 hw3) | (go_at_call 43; fail))
  have hga : Grew w w2 5 1 dst (.slice va (n + 1) vc) (n + 1) (bs ++ [.int .u8 45]) := Grew.before ((Upto.refl [] w).alloc _) ⟨ho2, hu2, hw3⟩
  refine (append_uint _ (n + 1) _ w2 u (by omega) ho2 (by omega)).mono ?_
  rintro e w1 ⟨vb, vd, rfl, hg⟩
  go_wp2
  go_ret
  have e1 : n + 1 + (enc36 u).length = n + (1 + (enc36 u).length) := by omega
  rw [e1] at hg
  refine ⟨vb, vd, by rw [e1]; rfl, ?_⟩
  have := hga.trans hg
  rw [List.append_assoc] at this
  exact this

theorem append_int42 (i : Int) (h1 : -9223372036854775808 ≤ i) (h2 : i ≤ 9223372036854775807) (hd : w.ownsRow 0 5 1 dst n bs) (hn : n ≤ 1099511627775) :
    Calls Tryd.prog 42 #[dst, .int .i64 i, .int .i64 36] w fun e w' => ∃ va vc, e = .returned (.slice va (n + (encI i).length) vc) ∧ Grew w w' 5 1 dst (.slice va (n + (encI i).length) vc) (n + (encI i).length) (bs ++ (encI i).map bv) := by
  by_cases hi : i < 0
  · obtain ⟨u, rfl⟩ : ∃ u : Nat, i = -(u : Int) := ⟨i.natAbs, by omega⟩
    have e : encI (-(u : Int)) = 45 :: enc36 u := by unfold encI; rw [if_pos hi]; simp
    rw [e]
    have := append_int_neg dst n bs w u (by omega) (by omega) hd hn
    rw [List.length_cons, Nat.add_comm (enc36 u).length 1]
    exact this
  · obtain ⟨u, rfl⟩ := Int.eq_ofNat_of_zero_le (show 0 ≤ i by omega)
    have e : encI (u : Int) = enc36 u := by unfold encI; rw [if_neg hi]; simp
    rw [e]
    exact append_int_pos dst n bs w u (by omega) hd (by omega)

set_option maxHeartbeats 400000 in
theorem append_int (i : Int) (h1 : -9223372036854775808 ≤ i) (h2 : i ≤ 9223372036854775807) (hd : w.ownsRow 0 5 1 dst n bs) (hn : n ≤ 1099511627775) :
    Calls Tryd.prog 41 #[dst, .int .i64 i, .int .i64 36] w fun e w' => ∃ va vc, e = .returned (.slice va (n + (encI i).length) vc) ∧ Grew w w' 5 1 dst (.slice va (n + (encI i).length) vc) (n + (encI i).length) (bs ++ (encI i).map bv) := by
  have HF := Lib.hid (append_int42 dst n bs w i h1 h2 hd hn)
  clear h1 h2
  go_enter Tryd.func41, Tryd.ntmps41
  go_wp2_with (go_at_call 42; refine HF.out.mono ?_; rintro e w1 ⟨va, vc, rfl, hg⟩)
  go_ret
  exact ⟨va, vc, rfl, hg⟩
end
end Go.Proofs.YtffnkjlobflhcaaDoor
