/- slices.Backward over one word; short of the number one. -/
import Derived.RangeFuncNested
import Derived.RangeFuncBound
import Derived.RangeFuncCalls
import Derived.RangeFuncLeaves
import Derived.RangeFuncBox
import Derived.Shelf.Abstract
import Derived.WalkKit
import Derived.OwnWalkIn
import Derived.TacticsInMore
import Derived.LoopNIn
import Derived.LoopIn
import Derived.Test.YtifellalnojomaaDoorLib
import Derived.Test.YtifellalnojomaaDoorProg
import Derived.Test.YtifellalnojomaaDoorTrim
import Derived.Test.YtifellalnojomaaDoorRound
import Derived.Deep.RegionHeld3
namespace Go.Proofs.YtifellalnojomaaDoor
open Go.RowKit Go.Shelf Go.PL

attribute [local go_sem] Oper.semAt_some

set_option maxRecDepth 100000 in
set_option maxHeartbeats 1000000 in
theorem back_in (F : Fence) (n : Nat) (h : F.fn 97) (hro : F.round = none) (a : Option Addr) (len cap : Nat) (w : World) :
    CallsIn F n Tryd.prog 97 #[.slice a len cap] w fun e w' => e = .returned (.func (.func 105) #[] #[.pointer (some ⟨w.heap.size, 0, none⟩)]) ∧ w' = w.alloc (.cells #[.slice a len cap] 43) := by
  refine callsIn_of_wp Tryd.func97 rfl h ?_ hro
  simp only [Tryd.ntmps97, List.size_toArray, List.length_cons, List.length_nil, Nat.reduceAdd, Nat.reduceSub, Array.replicate_succ, Array.replicate_zero, List.push_toArray, List.append_toArray, List.nil_append, List.cons_append]
  gi_wp2
  go_ret
  exact ⟨rfl, rfl⟩

set_option maxRecDepth 100000 in
set_option maxHeartbeats 2000000 in
/-- one word: one round -/
theorem back1_in (F : Fence) (n : Nat) (h : F.fn 105) (hro : F.round = none) (hn : 1 ≤ n) (l Bs b off cap : Nat) (z : Int) (J Jx : List Unit → World → Prop)
    (hY : ∀ pre x W, J pre W → pre.length < 1 → YieldAt F (n - 1) Tryd.prog l #[.int .i64 0, .int .u32 z] W fun e W' =>
      (e = .returned (.bool true) ∧ J (pre ++ [x]) W' ∧ True) ∨ (e = .returned (.bool false) ∧ Jx (pre ++ [x]) W'))
    (W : World) (hBs : W.cell? ⟨Bs, 0, none⟩ = some (.slice (some ⟨b, off, none⟩) 1 cap)) (hc : W.cell? ⟨b, off, none⟩ = some (.int .u32 z)) (h0 : J [] W) :
    CallsIn F n Tryd.prog 105 #[.func (.yield l) #[] #[], .pointer (some ⟨Bs, 0, none⟩)] W fun e W' => (∃ v, e = .returned v) ∧
      ((∃ ys, ys = [()] ∧ J ys W') ∨ (∃ pre, pre = [()] ∧ Jx pre W')) := by
  refine callsIn_of_wp Tryd.func105 rfl h ?_ hro
  simp only [Tryd.ntmps105, List.size_toArray, List.length_cons, List.length_nil, Nat.reduceAdd, Nat.reduceSub, Array.replicate_succ, Array.replicate_zero, List.push_toArray, List.append_toArray, List.nil_append, List.cons_append]
  gi_wp2
  gi_loopw [3] (fun i wr => (i = .int .i64 0 ∧ wr = W) ∨ (i = .int .i64 (-1) ∧ J [()] wr))
    (fun i _ => (intOf i + 1).toNat)
  case atStart => exact Or.inl ⟨by simp, rfl⟩
  case round =>
    rcases hrel with ⟨rfl, rfl⟩ | ⟨rfl, hJs⟩
    · obtain ⟨fn, tmps, assign, body, hy, hR⟩ := hY [] () _ h0 (by simp)
      gi_wp2
      refine hR.mono ?_
      rintro e W3 (⟨rfl, hJ3, -⟩ | ⟨rfl, hJx3⟩)
      · gi_wp2
        go_roundw
        case rel => exact Or.inr ⟨by simp, hJ3⟩
        case measure => simp [intOf]
      · gi_wp2
        refine bodyPost_ret (results_none rfl _ _ _) rfl ?_
        exact ⟨⟨_, rfl⟩, .inr ⟨_, rfl, hJx3⟩⟩
    · gi_wp2
      go_end0
      exact ⟨⟨_, rfl⟩, .inl ⟨_, rfl, hJs⟩⟩

theorem back_stops (F : Fence) (n : Nat) (h : F.fn 105) (hro : F.round = none) (hn : 1 ≤ n) (Bs b off cap : Nat) (z : Int) (w : World) (hBs : Bs < w.heap.size) (hb : b < w.heap.size)
    (hc : w.cell? ⟨Bs, 0, none⟩ = some (.slice (some ⟨b, off, none⟩) 1 cap)) (hz : w.cell? ⟨b, off, none⟩ = some (.int .u32 z)) :
    SeqStopsK F n Tryd.prog 105 #[.pointer (some ⟨Bs, 0, none⟩)] (fun _ : Unit => #[Value.int .i64 0, Value.int .u32 z]) (fun _ _ => True) (fun ys => ys = [()]) (fun pre => pre = [()]) 1 w := fun l J Jx W hW _ _ hY h0 =>
  back1_in F n h hro hn l Bs b off cap z J Jx hY W ((hW.cell (p := ⟨Bs, 0, none⟩) hBs).trans hc) ((hW.cell (p := ⟨b, off, none⟩) hb).trans hz) h0

theorem boxK {A B : World} {row : Option Nat} {p : Nat} {t : TypeId} {v : Value} (h : Boxed A p t v) (hg : A.grownBy B row) (hr : ∀ r, row = some r → ∃ o : Obj, A.heap[r]? = some o ∧ o.isCells = false) : Boxed B p t v :=
  (grownBy_keeps_cells hg hr h rfl).trans h
theorem cell_setOther {W : World} {b b' : Nat} {x : Value} (h : W.cell? ⟨b', 0, none⟩ = some x) (hn : b' ≠ b) (v : Value) : (W.setCell ⟨b, 0, none⟩ v).cell? ⟨b', 0, none⟩ = some x :=
  (((Upto.refl [b] W).setCell (p := ⟨b, 0, none⟩) (Or.inl (by simp)) v).cell (p := ⟨b', 0, none⟩) (World.block_lt_of_cell? W _ h) (by simpa using hn)).trans h
theorem boxed_upto {W W' : World} {b : Nat} {t : TypeId} {v : Value} (h : Boxed W b t v) (hu : Upto [] W W') : Boxed W' b t v := hu.at h (by simp)
/-- what stands between two rounds of short -/
structure ShI (sz : Nat) (w : World) (k : Nat) (W : World) : Prop where
  b1 : Boxed W (sz + 1) 41 (.int .u64 1000000000)
  b2 : Boxed W (sz + 1 + 1) 45 (.slice none 0 0)
  b3 : Boxed W (sz + 1 + 1 + 1) 49 (.int .u32 0)
  b4 : Boxed W (sz + 1 + 1 + 1 + 1) 43 (.slice (some ⟨sz + 1 + 1 + 1, 0, none⟩) 1 1)
  b5 : Boxed W (sz + 1 + 1 + 1 + 1 + 1) 41 (.int .u64 k)
  bel : Below sz w W
theorem shI_own (sz B : Nat) (w : World) (h1 : sz ≤ w.heap.size) (h2 : sz ≤ B) : OwnFrom B (fun (pre : List Unit) W => ShI sz w pre.length W) := fun s W W' row hs hg hr =>
  have hr' := fun r e => (hr r e).2
  ⟨boxK hs.b1 hg hr', boxK hs.b2 hg hr', boxK hs.b3 hg hr', boxK hs.b4 hg hr', boxK hs.b5 hg hr', ownFrom_below (β := List Unit) h1 h2 s W W' row hs.bel hg hr⟩

set_option maxRecDepth 100000 in
set_option maxHeartbeats 2000000 in
/-- short of the number one, by 10^9 -/
theorem short_one (b off cap : Nat) (w : World) (hz : w.cell? ⟨b, off, none⟩ = some (.int .u32 1)) :
    Calls Tryd.prog 91 #[.agg #[.slice (some ⟨b, off, none⟩) 1 cap], .int .u64 1000000000] w fun e W' => (∃ s c, e = .returned (.tuple #[.agg #[.slice s 0 c], .int .u64 1])) ∧ Below w.heap.size w W' := by
  have hb := World.block_lt_of_cell? w _ hz
  simp only at hb
  refine (callsIn_wide (n := 5)).1 ?_
  refine callsIn_of_wp_marks Tryd.func91 rfl trivial ?_ rfl
  simp only [Tryd.ntmps91, List.size_toArray, List.length_cons, List.length_nil, Nat.reduceAdd, Nat.reduceSub, Array.replicate_succ, Array.replicate_zero, List.push_toArray, List.append_toArray, List.nil_append, List.cons_append]
  have hmk : ∀ w, (Instr.makeSlice 43 (.int .i64 1) (.int .i64 1)).run Tryd.prog w = .ok (.slice (some ⟨w.heap.size, 0, none⟩) 1 1) (w.alloc (.cells #[.int .u32 0] 49)) := fun _ => by kernel_rfl
  gi_wp2_with (refine ⟨trivial, ?_⟩; gi_at_call 97; refine (back_in Fence.wide 4 trivial rfl _ _ _ _).mono ?_; rintro e w' ⟨rfl, rfl⟩)
  generalize hz0 : w.heap.size = sz at *
  obtain ⟨W0, hW0⟩ : ∃ W0, W0 = (((((((w.alloc (.cells #[.slice (some ⟨b, off, none⟩) 1 cap] 45)).alloc (.cells #[.int .u64 1000000000] 41)).alloc (.cells #[.slice none 0 0] 45)).alloc (.cells #[.int .u32 0] 49)).alloc
      (.cells #[.slice (some ⟨sz + 1 + 1 + 1, 0, none⟩) 1 1] 43)).alloc (.cells #[.int .u64 0] 41)).alloc (.cells #[.slice (some ⟨b, off, none⟩) 1 cap] 43)) := ⟨_, rfl⟩
  rw [← hW0]
  have hS : W0.heap.size = sz + 1 + 1 + 1 + 1 + 1 + 1 + 1 := by rw [hW0]; simp [hz0]
  have hup : Upto [] w W0 := by rw [hW0]; exact ((((((((Upto.refl [] w).alloc _).alloc _).alloc _).alloc _).alloc _).alloc _).alloc _)
  have hbel : Below sz w W0 := ⟨hup.os, hup.tape, hup.output, hup.size, fun k hk => hup.block k (by omega) (by simp)⟩
  have k1 := Boxed.new (w.alloc (.cells #[.slice (some ⟨b, off, none⟩) 1 cap] 45)) 41 (.int .u64 1000000000)
  have k2 := Boxed.new ((w.alloc (.cells #[.slice (some ⟨b, off, none⟩) 1 cap] 45)).alloc (.cells #[.int .u64 1000000000] 41)) 45 (.slice none 0 0)
  have k3 := Boxed.new (((w.alloc (.cells #[.slice (some ⟨b, off, none⟩) 1 cap] 45)).alloc (.cells #[.int .u64 1000000000] 41)).alloc (.cells #[.slice none 0 0] 45)) 49 (.int .u32 0)
  have k4 := Boxed.new ((((w.alloc (.cells #[.slice (some ⟨b, off, none⟩) 1 cap] 45)).alloc (.cells #[.int .u64 1000000000] 41)).alloc (.cells #[.slice none 0 0] 45)).alloc (.cells #[.int .u32 0] 49)) 43 (.slice (some ⟨sz + 1 + 1 + 1, 0, none⟩) 1 1)
  have k5 := Boxed.new (((((w.alloc (.cells #[.slice (some ⟨b, off, none⟩) 1 cap] 45)).alloc (.cells #[.int .u64 1000000000] 41)).alloc (.cells #[.slice none 0 0] 45)).alloc (.cells #[.int .u32 0] 49)).alloc (.cells #[.slice (some ⟨sz + 1 + 1 + 1, 0, none⟩) 1 1] 43)) 41 (.int .u64 0)
  have k6 := Boxed.new ((((((w.alloc (.cells #[.slice (some ⟨b, off, none⟩) 1 cap] 45)).alloc (.cells #[.int .u64 1000000000] 41)).alloc (.cells #[.slice none 0 0] 45)).alloc (.cells #[.int .u32 0] 49)).alloc (.cells #[.slice (some ⟨sz + 1 + 1 + 1, 0, none⟩) 1 1] 43)).alloc (.cells #[.int .u64 0] 41)) 43 (.slice (some ⟨b, off, none⟩) 1 cap)
  simp only [World.size_alloc, hz0] at k1 k2 k3 k4 k5 k6
  have i0 : ShI sz w 0 W0 := by
    rw [hW0]
    refine ⟨((((k1.alloc _).alloc _).alloc _).alloc _).alloc _, (((k2.alloc _).alloc _).alloc _).alloc _, ((k3.alloc _).alloc _).alloc _, (k4.alloc _).alloc _, k5.alloc _, ?_⟩
    rw [← hW0]
    exact hbel
  have b6 : W0.cell? ⟨sz + 1 + 1 + 1 + 1 + 1 + 1, 0, none⟩ = some (.slice (some ⟨b, off, none⟩) 1 cap) := by
    have : Boxed W0 (sz + 1 + 1 + 1 + 1 + 1 + 1) 43 (.slice (some ⟨b, off, none⟩) 1 cap) := by rw [hW0]; exact k6
    exact this.cell
  have hz1 : W0.cell? ⟨b, off, none⟩ = some (.int .u32 1) := (hup.cell (p := ⟨b, off, none⟩) (show b < w.heap.size by omega) (by simp)).trans hz
  clear hW0
  refine wpIn_rangeFunc_ownG rfl (by omega) (gf := 105) (lb := #[.pointer (some ⟨sz + 1 + 1 + 1 + 1 + 1 + 1, 0, none⟩)]) rfl trivial (enters_of Tryd.func105 (by kernel_rfl) rfl)
    (back_stops Fence.wide (5 - 1) trivial rfl (by omega) (sz + 1 + 1 + 1 + 1 + 1 + 1) b off cap 1 W0 (by omega) (by omega) b6 hz1) (fun _ _ => trivial) (fun _ _ _ _ _ _ _ _ => trivial) (Below.refl _ _) (fun _ => rfl)
    (fun pre W => ShI sz w pre.length W) (fun _ _ _ => False) (shI_own sz _ w (by omega) (by omega)) (fun _ _ _ _ _ hs _ _ => hs) i0
    (fun _ => { tmps := #[.agg #[.slice (some ⟨b, off, none⟩) 1 cap], .int .u64 1000000000, .pointer (some ⟨sz, 0, none⟩), .pointer (some ⟨sz + 1, 0, none⟩), .pointer (some ⟨sz + 1 + 1, 0, none⟩), .int .u64 0, .pointer (some ⟨sz + 1 + 1 + 1 + 1, 0, none⟩), .pointer (some ⟨sz + 1 + 1 + 1 + 1 + 1, 0, none⟩), .int .i64 0, .int .u32 1, undef, .pointer (some ⟨sz, 0, none⟩), .slice (some ⟨b, off, none⟩) 1 cap, .int .i64 1, .slice (some ⟨sz + 1 + 1 + 1, 0, none⟩) 1 1, .pointer (some ⟨sz, 0, none⟩), .slice (some ⟨b, off, none⟩) 1 cap, .func (.func 105) #[] #[.pointer (some ⟨sz + 1 + 1 + 1 + 1 + 1 + 1, 0, none⟩)], .int .i64 0, .int .u32 1, undef, undef, undef, undef, undef, undef, undef, undef, undef, undef, undef, undef, undef, undef, undef, undef, undef, undef], defers := [] }) ?assign ?body ?done ?stop
  case assign =>
    intro l x W K hK
    gi_wp2
    exact hK
  case body =>
    rintro l pre x W hI hlen
    obtain rfl : pre = [] := by cases pre; rfl; simp at hlen
    obtain ⟨b1, b2, b3, b4, b5, hB⟩ := hI
    have c1 := b1.cell
    have c3 := b3.cell
    have f3 := b3.frozen
    have c4 := b4.cell
    have c5 := b5.cell
    have f5 := b5.frozen
    simp at c5
    have hbits : bits BinOp.or IntKind.u64 0 1 = 1 := by decide
    gi_wp2
    have v1 : IntKind.u64.wrap 0 = 0 := by decide
    have v2 : IntKind.u32.wrap 0 = 0 := by decide
    have n1 : sz + 1 + 1 + 1 ≠ sz + 1 := by omega
    have n2 : sz + 1 + 1 + 1 ≠ sz + 1 + 1 + 1 + 1 := by omega
    have n3 : sz + 1 + 1 + 1 + 1 + 1 ≠ sz + 1 := by omega
    have n4 : sz + 1 + 1 + 1 + 1 + 1 ≠ sz + 1 + 1 + 1 + 1 := by omega
    have n5 : sz + 1 + 1 + 1 + 1 + 1 ≠ sz + 1 + 1 + 1 := by omega
    have n6 : sz + 1 + 1 + 1 ≠ sz + 1 + 1 + 1 + 1 + 1 := by omega
    have hS : W.drew.cell? ⟨sz + 1 + 1 + 1 + 1, 0, none⟩ = some (.slice (some ⟨sz + 1 + 1 + 1, 0, none⟩) 1 1) ∧ W.drew.cell? ⟨sz + 1, 0, none⟩ = some (.int .u64 1000000000) := ⟨c4, c1⟩
    refine region_round (S := fun w' => w'.cell? ⟨sz + 1 + 1 + 1 + 1, 0, none⟩ = some (.slice (some ⟨sz + 1 + 1 + 1, 0, none⟩) 1 1) ∧ w'.cell? ⟨sz + 1, 0, none⟩ = some (.int .u64 1000000000)) (by kernel_rfl) (by kernel_rfl) ?hQ ?h
    case hQ => rintro ⟨a, w, h⟩; exact h
    refine wpAnyH_take (i := 0) (v := ?v0) rfl (by kernel_rfl) (by kernel_rfl) (by kernel_rfl) (fun _ _ _ h => h) (Or.inl ⟨by rfl, ?hy0⟩) hS ?rest0
    case hy0 =>
      intro wx hSx
      obtain ⟨s1, s2⟩ := hSx
      go_simp
      first | done | with_reducible rfl
    simp only [Act.put, List.setIfInBounds_toArray, List.set_cons_zero, List.set_cons_succ]
    refine wpAnyH_take (i := 1) (v := ?v1) rfl (by kernel_rfl) (by kernel_rfl) (by kernel_rfl) (fun _ _ _ h => h) (Or.inl ⟨by rfl, ?hy1⟩) hS ?rest1
    case hy1 =>
      intro wx hSx
      obtain ⟨s1, s2⟩ := hSx
      go_simp
      first | done | with_reducible rfl
    simp only [Act.put, List.setIfInBounds_toArray, List.set_cons_zero, List.set_cons_succ]
    refine wpAnyH_take (i := 2) (v := ?v2) rfl (by kernel_rfl) (by kernel_rfl) (by kernel_rfl) (fun _ _ _ h => h) (Or.inl ⟨by rfl, ?hy2⟩) hS ?rest2
    case hy2 =>
      intro wx hSx
      obtain ⟨s1, s2⟩ := hSx
      go_simp
      first | done | with_reducible rfl
    simp only [Act.put, List.setIfInBounds_toArray, List.set_cons_zero, List.set_cons_succ]
    refine wpAnyH_take (i := 3) (v := ?v3) rfl (by kernel_rfl) (by kernel_rfl) (by kernel_rfl) (fun _ _ _ h => h) (Or.inl ⟨by rfl, ?hy3⟩) hS ?rest3
    case hy3 =>
      intro wx hSx
      obtain ⟨s1, s2⟩ := hSx
      go_simp
      first | done | with_reducible rfl
    simp only [Act.put, List.setIfInBounds_toArray, List.set_cons_zero, List.set_cons_succ]
    refine wpAnyH_take (i := 4) (v := ?v4) rfl (by kernel_rfl) (by kernel_rfl) (by kernel_rfl) (fun _ _ _ h => h) (Or.inl ⟨by rfl, ?hy4⟩) hS ?rest4
    case hy4 =>
      intro wx hSx
      obtain ⟨s1, s2⟩ := hSx
      go_simp
      first | done | with_reducible rfl
    simp only [Act.put, List.setIfInBounds_toArray, List.set_cons_zero, List.set_cons_succ]
    refine wpAnyH_take (i := 5) (v := ?v5) rfl (by kernel_rfl) (by kernel_rfl) (by kernel_rfl) (fun _ _ _ h => h) (Or.inl ⟨by rfl, ?hy5⟩) hS ?rest5
    case hy5 =>
      intro wx hSx
      obtain ⟨s1, s2⟩ := hSx
      go_simp
      first | done | with_reducible rfl
    simp only [Act.put, List.setIfInBounds_toArray, List.set_cons_zero, List.set_cons_succ]
    refine wpAnyH_take (i := 6) (v := ?v6) rfl (by kernel_rfl) (by kernel_rfl) (by kernel_rfl) (fun _ _ _ h => h) (Or.inl ⟨by rfl, ?hy6⟩) hS ?rest6
    case hy6 =>
      intro wx hSx
      obtain ⟨s1, s2⟩ := hSx
      go_simp
      first | done | with_reducible rfl
    simp only [Act.put, List.setIfInBounds_toArray, List.set_cons_zero, List.set_cons_succ]
    refine wpAnyH_take (i := 7) (v := ?v7) rfl (by kernel_rfl) (by kernel_rfl) (by kernel_rfl) (fun _ _ _ h => h) (Or.inl ⟨by rfl, ?hy7⟩) hS ?rest7
    case hy7 =>
      intro wx hSx
      obtain ⟨s1, s2⟩ := hSx
      go_simp
      first | done | with_reducible rfl
    simp only [Act.put, List.setIfInBounds_toArray, List.set_cons_zero, List.set_cons_succ]
    refine wpAnyH_take (i := 8) (v := ?v8) rfl (by kernel_rfl) (by kernel_rfl) (by kernel_rfl) (fun _ _ _ h => h) (Or.inl ⟨by rfl, ?hy8⟩) hS ?rest8
    case hy8 =>
      intro wx hSx
      obtain ⟨s1, s2⟩ := hSx
      go_simp
      first | done | with_reducible rfl
    simp only [Act.put, List.setIfInBounds_toArray, List.set_cons_zero, List.set_cons_succ]
    refine wpAnyH_take (i := 9) (v := ?v9) rfl (by kernel_rfl) (by kernel_rfl) (by kernel_rfl) (fun _ _ _ h => h) (Or.inl ⟨by rfl, ?hy9⟩) hS ?rest9
    case hy9 =>
      intro wx hSx
      obtain ⟨s1, s2⟩ := hSx
      go_simp
      first | done | with_reducible rfl
    simp only [Act.put, List.setIfInBounds_toArray, List.set_cons_zero, List.set_cons_succ]
    refine wpAnyH_ready (rs := [10]) (by kernel_rfl) (by simp) ?_
    refine AllReadyH.cons rfl (fun K hK => ?_) AllReadyH.nil
    go_simp
    refine hK.out _ _ ⟨(cell_setOther c4 (Ne.symm n2) _), (cell_setOther c1 (Ne.symm n1) _)⟩ (fun hHeld => ?_)
    clear hK K
    refine wpAnyH_ready (rs := [11]) (by kernel_rfl) (by simp) ?_
    refine AllReadyH.cons rfl (fun K hK => ?_) AllReadyH.nil
    go_simp
    refine hK.out _ _ ⟨cell_setOther (cell_setOther c4 (Ne.symm n2) _) (Ne.symm n4) _, cell_setOther (cell_setOther c1 (Ne.symm n1) _) (Ne.symm n3) _⟩ (fun hHeld => ?_)
    clear hK K
    refine wpAnyH_done (by kernel_rfl) ?_ _
    refine ⟨?_, trivial, ?_⟩
    · exact (((KeepsOthers.drew W).trans (KeepsOthers.setCell _ _ _)).trans (KeepsOthers.setCell _ _ _)).from _
    · have p1 := ((b1.other (by omega : sz + 1 ≠ sz + 1 + 1 + 1) (.int .u32 0)).other (by omega : sz + 1 ≠ sz + 1 + 1 + 1 + 1 + 1) (.int .u64 1))
      have p2 := ((b2.other (by omega : sz + 1 + 1 ≠ sz + 1 + 1 + 1) (.int .u32 0)).other (by omega : sz + 1 + 1 ≠ sz + 1 + 1 + 1 + 1 + 1) (.int .u64 1))
      have p3 := ((b3.set (.int .u32 0)).other (by omega : sz + 1 + 1 + 1 ≠ sz + 1 + 1 + 1 + 1 + 1) (.int .u64 1))
      have p4 := ((b4.other (by omega : sz + 1 + 1 + 1 + 1 ≠ sz + 1 + 1 + 1) (.int .u32 0)).other (by omega : sz + 1 + 1 + 1 + 1 ≠ sz + 1 + 1 + 1 + 1 + 1) (.int .u64 1))
      have p5 := ((b5.other (by omega : sz + 1 + 1 + 1 + 1 + 1 ≠ sz + 1 + 1 + 1) (.int .u32 0)).set (.int .u64 1))
      have p6 := ((hB.setCell (p := ⟨sz + 1 + 1 + 1, 0, none⟩) (by show sz ≤ sz + 1 + 1 + 1; omega) (.int .u32 0)).setCell (p := ⟨sz + 1 + 1 + 1 + 1 + 1, 0, none⟩) (by show sz ≤ sz + 1 + 1 + 1 + 1 + 1; omega) (.int .u64 1)).drew
      exact ⟨p1, p2, p3, p4, p5, p6⟩
  case done =>
    rintro D xs W hD rfl hI hK
    obtain ⟨b1, b2, b3, b4, b5, hB⟩ := hI
    have c2 := b2.cell
    have f2 := b2.frozen
    have c4 := b4.cell
    have c5 := b5.cell
    have c3 := b3.cell
    simp at c5
    have htr := trim_calls (sz + 1 + 1 + 1) 0 1 [0] W.drew (fun j z hz => by
      match j, hz with
      | 0, hz => simp at hz; subst hz; simpa using c3) (by simp) (by omega)
    have hz0' : trimN [0] = 0 := by simp [trimN]
    rw [hz0'] at htr
    have HT := Lib.hid htr
    clear htr hz0'
    gi_wp2
    refine wpIn_wide.2 ?_
    refine Code.wp_mono NoPanic.imp ?_
    go_region_held3 (fun w' => w'.cell? ⟨sz + 1 + 1 + 1 + 1, 0, none⟩ = some (.slice (some ⟨sz + 1 + 1 + 1, 0, none⟩) 1 1) ∧ w'.cell? ⟨sz + 1 + 1 + 1 + 1 + 1, 0, none⟩ = some (.int .u64 1))
      (first | go_keep | exact ⟨m0, m1⟩ | exact ⟨cell_setOther m0 (by omega) _, cell_setOther m1 (by omega) _⟩)
      (first | (go_at_call 68; refine HT.out.mono ?_; rintro e w3 ⟨rfl, hu3⟩; have q2 := boxed_upto b2 ((Upto.refl [] W).drew.trans_ext hu3); have m0 := (boxed_upto b4 ((Upto.refl [] W).drew.trans_ext hu3)).cell; have m1 := (boxed_upto b5 ((Upto.refl [] W).drew.trans_ext hu3)).cell; simp at m1; have m2 := q2.cell; have m3 := q2.frozen) | fail)
    refine NoPanic.normal ?_
    gi_wp2
    have hD3 : w3.heap[D]? = some (.deferred (some [])) := ((Upto.refl [] W).drew.trans_ext hu3).at hK (by simp)
    have hD4 : (w3.setCell ⟨sz + 1 + 1, 0, none⟩ (.slice (some ⟨sz + 1 + 1 + 1, 0, none⟩) 0 1)).heap[D]? = some (.deferred (some [])) := set_other hD3 (by omega) _ _
    have q3 := q2.set (.slice (some ⟨sz + 1 + 1 + 1, 0, none⟩) 0 1)
    have hr' : ((w3.setCell ⟨sz + 1 + 1, 0, none⟩ (.slice (some ⟨sz + 1 + 1 + 1, 0, none⟩) 0 1)).putObj D (.deferred none)).cell? ⟨sz + 1 + 1, 0, none⟩ = some (.slice (some ⟨sz + 1 + 1 + 1, 0, none⟩) 0 1) := by
      have : Boxed ((w3.setCell ⟨sz + 1 + 1, 0, none⟩ (.slice (some ⟨sz + 1 + 1 + 1, 0, none⟩) 0 1)).putObj D (.deferred none)) (sz + 1 + 1) 45 (.slice (some ⟨sz + 1 + 1 + 1, 0, none⟩) 0 1) := (World.putObj_heap_other (by omega)).trans q3
      exact this.cell
    have hb3 : Below sz w w3 := by
      have hu : Upto [] W w3 := (Upto.refl [] W).drew.trans_ext hu3
      exact hB.trans (hu.below sz (by have := hB.size; omega) (by simp))
    refine ⟨by simp, .inl ⟨_, _, rfl, run_takeDeferred hD4, ?_⟩⟩
    refine ⟨.tuple #[.agg #[.slice (some ⟨sz + 1 + 1 + 1, 0, none⟩) 0 1], .int .u64 1], by simp [results, Tryd.results91, go_sem, hr'], ⟨_, _, rfl⟩, ?_⟩
    rw [hz0]
    exact (hb3.setCell (p := ⟨sz + 1 + 1, 0, none⟩) (by show sz ≤ sz + 1 + 1; omega) _).grown (grownBy_putObj' _ D _) (by
      have := hb3.size
      simp
      omega) (fun k hk => by cases hk; omega)
  case stop =>
    rintro D c pre W _ _ h _
    exact h.elim
end Go.Proofs.YtifellalnojomaaDoor
