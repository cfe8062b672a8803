/- bignat's word and the closure of Add. -/
import Derived.Test.YtifellalnojomaaDoorNat32
import Derived.Test.YtifellalnojomaaDoorExt
import Derived.BigQuiet
import Derived.Deep.DeepCutAuto
import Derived.Deep.CutBlock
namespace Go.Proofs.YtifellalnojomaaDoor
open Go.RowKit Go.PL Go.Maps

def uv (n : Nat) : Value := .int .u32 (n : Int)

set_option maxRecDepth 100000 in
set_option maxHeartbeats 400000 in
theorem word_calls (ws : List Nat) (va : Option Addr) (vc : Nat) (i : Nat) (w : World) (hv : SlC w (.slice va ws.length vc) (ws.map uv)) (hl : ws.length ≤ 9223372036854775807) (hi : i ≤ 9223372036854775807) (hw : ∀ x ∈ ws, x < 4294967296) :
    Calls Tryd.prog 78 #[.agg #[.slice va ws.length vc], .int .i64 i] w fun e w' => e = .returned (.int .u64 (ws.getD i 0 : Nat)) ∧ Upto [] w w' := by
  by_cases h : i < ws.length
  · have hx : ws[i]? = some ws[i] := List.getElem?_eq_getElem h
    have hlt := hw _ (List.getElem_mem h)
    have hg : ws.getD i 0 = ws[i] := by rw [List.getD_eq_getElem?_getD, hx]; rfl
    rw [hg]
    rcases hv with ⟨h0, _⟩ | ⟨g, o, c, hs, hc⟩
    · simp at h0; rw [h0] at h; simp at h
    · simp only [Value.slice.injEq] at hs
      obtain ⟨rfl, -, rfl⟩ := hs
      have hc1 : w.cell? ⟨g, o + i, none⟩ = some (.int .u32 (ws[i] : Nat)) := hc i (uv ws[i]) (by simp [h])
      generalize ws[i] = x at *
      have hc2 : (w.alloc (.cells #[.slice (some ⟨g, o, none⟩) ws.length vc] 45)).cell? ⟨g, o + i, none⟩ = some (.int .u32 x) := ((Upto.refl [] w).alloc _).cell (p := ⟨g, o + i, none⟩) (World.block_lt_of_cell? w _ hc1) (by simp) |>.trans hc1
      clear hx hg hc hc1 hw
      go_enter Tryd.func78, Tryd.ntmps78
      go_wp2
      go_ret
      exact ⟨ret_int (by first | rfl | omega), (Upto.refl [] w).alloc _⟩
  · have hg : ws.getD i 0 = 0 := by rw [List.getD_eq_getElem?_getD, List.getElem?_eq_none (by omega)]; rfl
    rw [hg]
    clear hg hw hv
    go_enter Tryd.func78, Tryd.ntmps78
    go_wp2
    go_ret
    exact ⟨rfl, (Upto.refl [] w).alloc _⟩

set_option maxRecDepth 100000 in
set_option maxHeartbeats 1000000 in
/-- Add's closure: one word of the sum -/
theorem add1_calls (a b : List Nat) (va vb : Option Addr) (ca cb p q i c : Nat) (w : World) (ha : SlC w (.slice va a.length ca) (a.map uv)) (hb : SlC w (.slice vb b.length cb) (b.map uv))
    (hp : w.cell? ⟨p, 0, none⟩ = some (.slice va a.length ca)) (hq : w.cell? ⟨q, 0, none⟩ = some (.slice vb b.length cb))
    (hla : a.length ≤ 9223372036854775807) (hlb : b.length ≤ 9223372036854775807) (hi : i ≤ 9223372036854775807) (hwa : ∀ x ∈ a, x < 4294967296) (hwb : ∀ x ∈ b, x < 4294967296) (hcy : c ≤ 1) :
    Calls Tryd.prog 77 #[.int .i64 i, .int .u64 c, .pointer (some ⟨p, 0, none⟩), .pointer (some ⟨q, 0, none⟩)] w fun e w' =>
      e = .returned (.tuple #[uv ((a.getD i 0 + b.getD i 0 + c) % 4294967296), .int .u64 ((a.getD i 0 + b.getD i 0 + c) / 4294967296 : Nat)]) ∧ Upto [] w w' := by
  have h1 := getD_lt hwa i
  have h2 := getD_lt hwb i
  have HA : Hid (∀ u : Ext w, Calls Tryd.prog 78 #[.agg #[.slice va a.length ca], .int .i64 i] u.w fun e w'' => e = .returned (.int .u64 (a.getD i 0 : Nat)) ∧ ∃ m : Ext w, w'' = m.w) := fun u => calls_ext u (word_calls a va ca i u.w (ha.ext u.up) hla hi hwa)
  have HB : Hid (∀ u : Ext w, Calls Tryd.prog 78 #[.agg #[.slice vb b.length cb], .int .i64 i] u.w fun e w'' => e = .returned (.int .u64 (b.getD i 0 : Nat)) ∧ ∃ m : Ext w, w'' = m.w) := fun u => calls_ext u (word_calls b vb cb i u.w (hb.ext u.up) hlb hi hwb)
  have e0 : ∀ u : Ext w, u.w.cell? ⟨p, 0, none⟩ = some (.slice va a.length ca) := fun u => u.cell hp
  have e1 : ∀ u : Ext w, u.w.cell? ⟨q, 0, none⟩ = some (.slice vb b.length cb) := fun u => u.cell hq
  generalize a.getD i 0 = x at *
  generalize b.getD i 0 = y at *
  clear ha hb hp hq hwa hwb
  go_enter Tryd.func77, Tryd.ntmps77
  go_upto_region 1 with fail
  refine wp_region_ext (by kernel_rfl) (by kernel_rfl) ?_
  repeat (go_big_quiet_step ((go_at_call 78; first | with_reducible exact HA.out _ | with_reducible exact HB.out _)))
  refine wpQuiet_nil ?_
  rintro _ ⟨u3, rfl⟩
  have hu3 := u3.up
  generalize u3.w = w3 at *
  clear e0 e1
  go_wp2
  refine bodyPost_ret (v := .tuple #[uv ((x + y + c) % 4294967296), .int .u64 ((x + y + c) / 4294967296 : Nat)]) (by simp [results, Tryd.results77, go_sem, uv]) rfl ⟨rfl, hu3⟩

theorem infoW : (Tryd.prog.info? 49).map (fun i => (i.zero, i.size, i.bytes)) = some (some (.int .u32 0), 1, 4) := by kernel_rfl

theorem row_some {w : World} {B : Nat} {e : TypeId} {z n : Nat} {v : Value} {xs : List Value} (h : w.ownsRow B e z v n xs) (hs : xs ≠ [] ∨ ∃ g, v.ownBlock = some g) : ∃ g c, v = .slice (some ⟨g, 0, none⟩) n c := by
  have h' := h
  rcases h.2 with ⟨rfl, rfl⟩ | ⟨g, cap, cur, rfl, _⟩
  · rcases hs with h | ⟨g, h⟩
    · exact absurd (List.eq_nil_of_length_eq_zero (by have := h'.1; simpa using this)) h
    · cases h
  · exact ⟨g, cap, rfl⟩

/-- the head of a round of join -/
structure JoinI (w : World) (a b : List Nat) (i : Nat) (s c : Value) (wr : World) : Prop where
  row : wr.ownsRow 0 49 1 s i ((addL a b i).1.map uv)
  own : ∀ g, s.ownBlock = some g → w.heap.size ≤ g
  some : ∃ g, s.ownBlock = some g
  cy : c = .int .u64 (addL a b i).2
  up : Upto [] w wr

set_option maxRecDepth 100000 in
set_option maxHeartbeats 2000000 in
theorem join_calls (a b : List Nat) (va vb : Option Addr) (ca cb p q n : Nat) (w : World) (ha : SlC w (.slice va a.length ca) (a.map uv)) (hb : SlC w (.slice vb b.length cb) (b.map uv))
    (hp : w.cell? ⟨p, 0, none⟩ = some (.slice va a.length ca)) (hq : w.cell? ⟨q, 0, none⟩ = some (.slice vb b.length cb))
    (hla : a.length ≤ 9223372036854775807) (hlb : b.length ≤ 9223372036854775807) (hwa : ∀ x ∈ a, x < 4294967296) (hwb : ∀ x ∈ b, x < 4294967296) (hn : n ≤ 1000000000000) :
    Calls Tryd.prog 76 #[.int .i64 n, .func (.func 77) #[] #[.pointer (some ⟨p, 0, none⟩), .pointer (some ⟨q, 0, none⟩)]] w fun e w' => ∃ g vc, e = .returned (.slice (some ⟨g, 0, none⟩) (sumL a b n).length vc) ∧
      w'.ownsRow 0 49 1 (.slice (some ⟨g, 0, none⟩) (sumL a b n).length vc) (sumL a b n).length ((sumL a b n).map uv) ∧ Upto [] w w' := by
  have HC : Hid (∀ (i c : Nat) (u : World), Upto [] w u → i ≤ 9223372036854775807 → c ≤ 1 → Calls Tryd.prog 77 #[.int .i64 i, .int .u64 c, .pointer (some ⟨p, 0, none⟩), .pointer (some ⟨q, 0, none⟩)] u fun e w' =>
      e = .returned (.tuple #[uv ((a.getD i 0 + b.getD i 0 + c) % 4294967296), .int .u64 ((a.getD i 0 + b.getD i 0 + c) / 4294967296 : Nat)]) ∧ Upto [] u w') := fun i c u hu hi hc =>
    add1_calls a b va vb ca cb p q i c u (ha.ext hu) (hb.ext hu) ((hu.cell (p := ⟨p, 0, none⟩) (World.block_lt_of_cell? w _ hp) (by simp)).trans hp) ((hu.cell (p := ⟨q, 0, none⟩) (World.block_lt_of_cell? w _ hq) (by simp)).trans hq) hla hlb hi hwa hwb hc
  have HY := Lib.hid (addL_carry hwa hwb)
  obtain ⟨i0, hi0, hz0, hz1, hz2⟩ := info_parts infoW
  obtain ⟨w1, hmk, hrow0, hgr⟩ := run_make_own (P := Tryd.prog) w 0 43 49 i0 (.int .u32 0) 1 Tryd.underlying43 hi0 hz0 hz1 .i64 .i64 (n + 1) (by rw [hz2]; omega) (by unfold maxLen; omega) (Nat.zero_le _)
  rw [show (((n + 1 : Nat)) : Int) = (n : Int) + 1 from rfl] at hmk
  have hu1 : Upto [] w w1 := (Upto.refl [] w).grown hgr (by simp)
  clear ha hb hp hq hla hlb hwa hwb hgr
  go_enter Tryd.func76, Tryd.ntmps76
  go_wp2_with fail
  go_loopw [5, 6, 13] (fun s c j wr => ∃ i : Nat, i ≤ n ∧ j = .int .i64 i ∧ JoinI w a b i s c wr) (fun _ _ j _ => (n - intOf j).toNat)
  case atStart => exact ⟨0, Nat.zero_le _, rfl, by simpa [addL] using hrow0, by intro g hg; simp [Value.ownBlock] at hg; omega, ⟨_, rfl⟩, rfl, hu1⟩
  case round =>
    obtain ⟨i, hi, rfl, hrow, hown, hsome, rfl, hup⟩ := hrel
    have hcy := HY.out i
    have hln := addL_len a b i
    obtain ⟨va', vc', rfl, -⟩ := ownsRow_len hrow
    rcases Nat.lt_or_ge i n with hlt | hge
    · have HX := Lib.hid (HC.out i (addL a b i).2 wr hup (by omega) hcy)
      have e1 : (addL a b (i + 1)).1 = (addL a b i).1 ++ [(a.getD i 0 + b.getD i 0 + (addL a b i).2) % 4294967296] := rfl
      have e2 : (addL a b (i + 1)).2 = (a.getD i 0 + b.getD i 0 + (addL a b i).2) / 4294967296 := rfl
      generalize (a.getD i 0 + b.getD i 0 + (addL a b i).2) % 4294967296 = d at *
      generalize (a.getD i 0 + b.getD i 0 + (addL a b i).2) / 4294967296 = c2 at *
      have E1 := Lib.hid e1
      have E2 := Lib.hid e2
      generalize (addL a b i).2 = c at *
      generalize (addL a b i).1 = l at *
      simp only [uv] at HX
      clear e1 e2 HC HY hmk
      have hi' : (i : Int) < n := by omega
      go_wp2_with fail
      refine HX.out.mono ?_
      rintro e w2 ⟨rfl, hu2⟩
      have hrow2 := (ownsRow_upto hrow hu2 (by simp)).alloc (.cells #[.int .u32 (d : Int)] 49)
      have hone := one_at (new_at w2 (.cells #[.int .u32 (d : Int)] 49))
      have hup2 := (hup.trans_ext hu2).alloc (.cells #[.int .u32 (d : Int)] 49)
      go_wp2_with (at_builtin; refine wpList_app _ rfl (.tmp 23) (.tmp 25) 43 rfl 49 i0 (.int .u32 0) 1 4 Tryd.underlying43 hi0 hz0 hz1 hz2 rfl (by decide) (.slice va' i vc') i (l.map uv) rfl hrow2 ⟨w2.heap.size, 0, none⟩ 1 1 [.int .u32 (d : Int)] rfl rfl hone (by simp [Value.oneCell']) (by unfold maxLen; omega) (by omega) ?_; intro va2 vc2 w4 ho4 hu4 hw4)
      go_roundw
      case rel =>
        refine ⟨i + 1, by omega, by simp, ?_, ?_, ?_, ?_, ?_⟩
        · rw [E1.out]
          simpa [uv] using ho4
        · intro g hg
          rcases hw4 g hg with h | h
          · exact hown g h
          · have := hup2.size
            omega
        · obtain ⟨g, c, h⟩ := row_some ho4 (Or.inl (by simp))
          rw [Value.slice.injEq] at h
          obtain ⟨rfl, -, -⟩ := h
          exact ⟨g, rfl⟩
        · rw [E2.out]
        · refine hup2.trans hu4 (fun g hg => ?_)
          right
          exact hown g (Option.mem_toList.1 hg)
      case measure => simp [intOf]; omega
    · obtain rfl : i = n := by omega
      obtain ⟨g0, c0, hsl⟩ := row_some hrow (Or.inr hsome)
      rw [Value.slice.injEq] at hsl
      obtain ⟨rfl, -, rfl⟩ := hsl
      clear hsome HC HY hmk hge hi
      rcases (show (addL a b i).2 = 0 ∨ (addL a b i).2 = 1 by omega) with h0 | h1
      · have hs : sumL a b i = (addL a b i).1 := by unfold sumL; rw [h0]; simp
        rw [h0]
        generalize (addL a b i).1 = l at *
        have HS := Lib.hid hs
        have HL := Lib.hid hln
        clear hs hln hcy h0
        go_wp2
        go_ret
        rw [HS.out, HL.out]
        exact ⟨g0, vc', rfl, hrow, hup⟩
      · have hs : sumL a b i = (addL a b i).1 ++ [1] := by unfold sumL; rw [h1]; simp
        have hsl : (sumL a b i).length = i + 1 := by rw [hs]; simp [hln]
        have HL2 := Lib.hid hsl
        rw [h1]
        generalize (addL a b i).1 = l at *
        have HS := Lib.hid hs
        have HL := Lib.hid hln
        clear hs hln hcy h1 hsl
        have hrow2 := hrow.alloc (.cells #[.int .u32 1] 49)
        have hone := one_at (new_at wr (.cells #[.int .u32 1] 49))
        have hup2 := hup.alloc (.cells #[.int .u32 1] 49)
        go_wp2_with (at_builtin; refine wpList_app _ rfl (.tmp 30) (.tmp 33) 43 rfl 49 i0 (.int .u32 0) 1 4 Tryd.underlying43 hi0 hz0 hz1 hz2 rfl (by decide) (.slice (some ⟨g0, 0, none⟩) i vc') i (l.map uv) rfl hrow2 ⟨wr.heap.size, 0, none⟩ 1 1 [.int .u32 1] rfl rfl hone (by simp [Value.oneCell']) (by unfold maxLen; omega) (by omega) ?_; intro va2 vc2 w4 ho4 hu4 hw4)
        go_ret
        obtain ⟨g, c, h⟩ := row_some ho4 (Or.inl (by simp))
        rw [Value.slice.injEq] at h
        obtain ⟨rfl, -, -⟩ := h
        rw [HL2.out, HS.out]
        refine ⟨g, vc2, rfl, by simpa [uv] using ho4, hup2.trans hu4 (fun k hk => ?_)⟩
        right
        exact hown k (Option.mem_toList.1 hk)
end Go.Proofs.YtifellalnojomaaDoor
