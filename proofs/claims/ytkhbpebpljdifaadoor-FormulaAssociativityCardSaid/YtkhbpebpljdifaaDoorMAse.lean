/- Texts merged, in build order: Fm29, Fm31, Fm32, Fm40, Fm33, Fm42, Lx, Nu, Fm41. -/
import Derived.Test.YtkhbpebpljdifaaDoorMAsd
import Derived.Lib.Join
import Derived.Test.YtkhbpebpljdifaaDoorRows
import Derived.WalkKit
import Derived.WalkSpells
import Derived.WalkLawsBesides
import Derived.Maps.OwnSet
import Derived.Lib.Hide
import Derived.Laws.BytesArg
import Derived.Deep.QuietTactic
import Derived.BigQuiet
import Derived.Test.YtkhbpebpljdifaaDoorProg
import Derived.Shelf.Small.Strs
import Derived.Shelf.Strings.OnBuilder
import Derived.Shelf.LaysM
import Derived.Shelf.Strings.SplitShaped
import Derived.Deep.DeepCutAuto
import Derived.Deep.CutBlock
import Derived.Lib.Strings
import Derived.Lib.Walk
import Derived.Lib.ConvBytes
import Derived.Lib.ParseIntBMem
import Derived.Lib.AtoiErrMem
import Derived.Lib.BufferWrite
import Derived.Lib.UnsafeStr
import Derived.Lib.IfaceEq
import Derived.Laws.MakeOwn
import Derived.Laws.Strings3
import Derived.Laws.Closers25
import Derived.Laws.Closers25b
import Derived.RegionTactic
import Derived.Deep.RegionWith
import Derived.BigCall
import Derived.BigGuard
import Derived.Lib.AppendIntMem
import Derived.Carry
import Derived.OrdersHeld
import Derived.Deep.RegionHeld3
import Derived.Deep.RegionLaw
import Derived.Laws.EntriesVeiled
import Derived.RangeFuncNested
import Derived.RangeFuncBound
import Derived.RangeFuncCalls
import Derived.RangeFuncLeaves
import Derived.RangeFuncBox
import Derived.Shelf.Abstract
import Derived.OwnWalkIn
import Derived.TacticsInMore
import Derived.LoopNIn
import Derived.LoopIn
namespace Go.Proofs.YtkhbpebpljdifaaDoor
open Go.RowKit Go.PL Go.Maps

mutual
/-- no node bears more names than a machine can hold -/
def bigN : Nd → Prop
  | .mk _ names _ _ _ l => names.length ≤ 10000000 ∧ bigsN l
def bigsN : List Nd → Prop
  | [] => True
  | x :: xs => bigN x ∧ bigsN xs
end
theorem bigs_mem : ∀ {l : List Nd} {x : Nd}, bigsN l → x ∈ l → bigN x
  | [], _, _, h => by cases h
  | y :: ys, x, h, hx => by
    unfold bigsN at h
    rcases List.mem_cons.1 hx with rfl | hx
    · exact h.1
    · exact bigs_mem h.2 hx
theorem sizesF_mem : ∀ {l : List Nd} {x : Nd}, x ∈ l → sizeF x ≤ sizesF l
  | [], _, h => by cases h
  | y :: ys, x, hx => by
    simp only [sizesF]
    rcases List.mem_cons.1 hx with rfl | hx
    · omega
    · have := sizesF_mem hx; omega
/-- a list of formulas, element by element -/
def LsAt (w : World) (P : Nat → Prop) (a : Option Addr) (l : List Nd) : Prop := ∀ i x, l[i]? = some x → ∃ (g o : Nat) (xo : Int) (xn1 : Option Addr) (xn2 xn3 : Nat) (xs xm xq : Int) (xl1 : Option Addr) (xl2 xl3 : Nat), a = some ⟨g, o, none⟩ ∧ w.cell? ⟨g, o + i * 6, none⟩ = some (.int .i64 xo) ∧ w.cell? ⟨g, o + i * 6 + 1, none⟩ = some (.slice xn1 xn2 xn3) ∧ w.cell? ⟨g, o + i * 6 + 2, none⟩ = some (.int .i64 xs) ∧ w.cell? ⟨g, o + i * 6 + 3, none⟩ = some (.int .i64 xm) ∧ w.cell? ⟨g, o + i * 6 + 4, none⟩ = some (.int .i64 xq) ∧ w.cell? ⟨g, o + i * 6 + 5, none⟩ = some (.slice xl1 xl2 xl3) ∧ NdV w P x (.agg #[.int .i64 xo, .slice xn1 xn2 xn3, .int .i64 xs, .int .i64 xm, .int .i64 xq, .slice xl1 xl2 xl3])
theorem NdV.open {w : World} {P : Nat → Prop} {op so n m : Int} {names : List (List UInt8)} {l : List Nd} {v : Value} (h : NdV w P (.mk op names so n m l) v) : ∃ a1 c1 a2 c2, v = .agg #[.int .i64 op, .slice a1 names.length c1, .int .i64 so, .int .i64 n, .int .i64 m, .slice a2 l.length c2] ∧ SlP w P (.slice a1 names.length c1) names.length (names.map sV) ∧ LsAt w P a2 l := by
  unfold NdV at h
  obtain ⟨vn, vl, rfl, h1, h2⟩ := h
  obtain ⟨n1, n3, rfl⟩ := h1.len
  rcases h2 with ⟨rfl, a, c, rfl⟩ | ⟨g, o, c, rfl, -, h3⟩
  · exact ⟨n1, n3, a, c, rfl, h1, fun i x h => by simp at h⟩
  · refine ⟨n1, n3, _, c, rfl, h1, fun i x hi => ?_⟩
    obtain ⟨v0, v1, v2, v3, v4, v5, c0, c1, c2, c3, c4, c5, hn⟩ := h3.get l o i x hi
    obtain ⟨xo, xn1, xn2, xn3, xs, xm, xq, xl1, xl2, xl3, hs⟩ := hn.six
    simp only [Value.agg.injEq, Array.mk.injEq, List.cons.injEq, and_true] at hs
    obtain ⟨rfl, rfl, rfl, rfl, rfl, rfl⟩ := hs
    exact ⟨g, o, xo, xn1, xn2, xn3, xs, xm, xq, xl1, xl2, xl3, rfl, c0, c1, c2, c3, c4, c5, hn⟩
theorem LsAt.ext {w w' : World} {P : Nat → Prop} {a : Option Addr} {l : List Nd} (h : LsAt w P a l) (hu : Upto [] w w') : LsAt w' P a l := fun i x hi => by
  obtain ⟨g, o, xo, xn1, xn2, xn3, xs, xm, xq, xl1, xl2, xl3, e, c0, c1, c2, c3, c4, c5, hn⟩ := h i x hi
  have up : ∀ {j : Nat} {u : Value}, w.cell? ⟨g, j, none⟩ = some u → w'.cell? ⟨g, j, none⟩ = some u := fun hc => (hu.cell (World.block_lt_of_cell? w _ hc) (by simp)).trans hc
  exact ⟨g, o, xo, xn1, xn2, xn3, xs, xm, xq, xl1, xl2, xl3, e, up c0, up c1, up c2, up c3, up c4, up c5, hn.ext hu⟩

end Go.Proofs.YtkhbpebpljdifaaDoor


namespace Go.Proofs.YtkhbpebpljdifaaDoor
open Go.RowKit Go.PL Go.Maps

def wordsF : List (List UInt8) := [[116, 114, 117, 101], [102, 97, 108, 115, 101], [61], [105, 110], [115, 117, 98], [97, 100, 106], [111, 110], [], [], [], [], [110, 111, 116], [97, 110, 100], [111, 114], [105, 109, 112, 108, 105, 101, 115], [105, 102, 102], [115, 111, 109, 101], [101, 118, 101, 114, 121]]
def sortW (s : Int) : List UInt8 := if s = 0 then [118, 101, 114, 116, 101, 120] else if s = 1 then [101, 100, 103, 101] else if s = 2 then [115, 101, 116] else if s = 3 then [101, 100, 103, 101, 115] else []
mutual
/-- the full text: atoms over two names, connectives of two, quantifiers -/
def fullF : Nd → List UInt8
  | .mk op names so _ _ l => if op < 7 then names.getD 0 [] ++ [32] ++ wordsF.getD op.toNat [] ++ [32] ++ names.getD 1 []
    else if op < 16 then [40] ++ (fullsF l).getD 0 [] ++ [41, 32] ++ wordsF.getD op.toNat [] ++ [32, 40] ++ (fullsF l).getD 1 [] ++ [41]
    else wordsF.getD op.toNat [] ++ [32] ++ sortW so ++ [32] ++ names.getD 0 [] ++ [58, 32] ++ (fullsF l).getD 0 []
def fullsF : List Nd → List (List UInt8)
  | [] => []
  | x :: xs => fullF x :: fullsF xs
end
mutual
/-- the formulas that fullF speaks of -/
def plainF : Nd → Prop
  | .mk op names so _ _ l => (2 ≤ op ∧ op < 7 ∧ 2 ≤ names.length) ∨ (12 ≤ op ∧ op < 16 ∧ 2 ≤ l.length ∧ plainsF l) ∨ (16 ≤ op ∧ op < 18 ∧ 1 ≤ names.length ∧ 1 ≤ l.length ∧ plainsF l)
def plainsF : List Nd → Prop
  | [] => True
  | x :: xs => plainF x ∧ plainsF xs
end
def Says (w : World) (P : Nat → Prop) (nd : Nd) (s : List UInt8) : Prop := ∀ v w1, Upto [] w w1 → NdV w1 P nd v → Calls Tryd.prog 49 #[v] w1 fun e w' => e = .returned (.string ⟨s.toArray⟩) ∧ Upto [] w1 w'

set_option maxHeartbeats 1600000 in
theorem sorted_calls (s : Int) (w : World) : Calls Tryd.prog 71 #[.int .i64 s] w fun e w' => e = .returned (.string ⟨(sortW s).toArray⟩) ∧ Upto [] w w' := by
  have HU := Lib.hid (Upto.refl [] w)
  by_cases h0 : s = 0
  · subst h0
    go_enter Tryd.func71, Tryd.ntmps71
    go_wp2_with fail
    go_ret
    exact ⟨rfl, HU.out⟩
  by_cases h1 : s = 1
  · subst h1
    go_enter Tryd.func71, Tryd.ntmps71
    go_wp2_with fail
    go_ret
    exact ⟨rfl, HU.out⟩
  by_cases h2 : s = 2
  · subst h2
    go_enter Tryd.func71, Tryd.ntmps71
    go_wp2_with fail
    go_ret
    exact ⟨rfl, HU.out⟩
  by_cases h3 : s = 3
  · subst h3
    go_enter Tryd.func71, Tryd.ntmps71
    go_wp2_with fail
    go_ret
    exact ⟨rfl, HU.out⟩
  have e : sortW s = [] := by unfold sortW; rw [if_neg h0, if_neg h1, if_neg h2, if_neg h3]
  rw [e]
  have b0 : (s == 0) = false := by simpa using h0
  have b1 : (s == 1) = false := by simpa using h1
  have b2 : (s == 2) = false := by simpa using h2
  have b3 : (s == 3) = false := by simpa using h3
  go_enter Tryd.func71, Tryd.ntmps71
  go_wp2_with fail
  go_ret
  exact ⟨rfl, HU.out⟩


set_option maxRecDepth 100000 in
set_option maxHeartbeats 6400000 in
theorem full_two (w : World) (k : Nat) (l1 : Option Addr) (n2 n3 l2 l3 : Nat) (so nn mm : Int) (W : List UInt8) (hW : wordsF[k]? = some W) (hk : 2 ≤ k ∧ k < 7) (g og : Nat) (x y : List UInt8) (hn2 : 2 ≤ n2) (hlx : x.length ≤ 1000000000000) (hly : y.length ≤ 1000000000000) (hx : w.cell? ⟨g, og, none⟩ = some (sV x)) (hy : w.cell? ⟨g, og + 1, none⟩ = some (sV y)) :
    Calls Tryd.prog 49 #[.agg #[.int .i64 k, .slice (some ⟨g, og, none⟩) n2 n3, .int .i64 so, .int .i64 nn, .int .i64 mm, .slice l1 l2 l3]] w fun e w' => e = .returned (.string ⟨(x ++ [32] ++ W ++ [32] ++ y).toArray⟩) ∧ Upto [] w w' := by
  have hu2 : Upto [] w ((w.alloc (.cells #[.int .i64 k, .slice (some ⟨g, og, none⟩) n2 n3, .int .i64 so, .int .i64 nn, .int .i64 mm, .slice l1 l2 l3] 54)).alloc (.cells #[.string ⟨#[116, 114, 117, 101]⟩, .string ⟨#[102, 97, 108, 115, 101]⟩, .string ⟨#[61]⟩, .string ⟨#[105, 110]⟩, .string ⟨#[115, 117, 98]⟩, .string ⟨#[97, 100, 106]⟩, .string ⟨#[111, 110]⟩, .string ⟨#[]⟩, .string ⟨#[]⟩, .string ⟨#[]⟩, .string ⟨#[]⟩, .string ⟨#[110, 111, 116]⟩, .string ⟨#[97, 110, 100]⟩, .string ⟨#[111, 114]⟩, .string ⟨#[105, 109, 112, 108, 105, 101, 115]⟩, .string ⟨#[105, 102, 102]⟩, .string ⟨#[115, 111, 109, 101]⟩, .string ⟨#[101, 118, 101, 114, 121]⟩] 9)) := ((Upto.refl [] w).alloc _).alloc _
  have HU2 := Lib.hid hu2
  have hb1 := alloc_old (new_at w (.cells #[.int .i64 k, .slice (some ⟨g, og, none⟩) n2 n3, .int .i64 so, .int .i64 nn, .int .i64 mm, .slice l1 l2 l3] 54)) (.cells #[.string ⟨#[116, 114, 117, 101]⟩, .string ⟨#[102, 97, 108, 115, 101]⟩, .string ⟨#[61]⟩, .string ⟨#[105, 110]⟩, .string ⟨#[115, 117, 98]⟩, .string ⟨#[97, 100, 106]⟩, .string ⟨#[111, 110]⟩, .string ⟨#[]⟩, .string ⟨#[]⟩, .string ⟨#[]⟩, .string ⟨#[]⟩, .string ⟨#[110, 111, 116]⟩, .string ⟨#[97, 110, 100]⟩, .string ⟨#[111, 114]⟩, .string ⟨#[105, 109, 112, 108, 105, 101, 115]⟩, .string ⟨#[105, 102, 102]⟩, .string ⟨#[115, 111, 109, 101]⟩, .string ⟨#[101, 118, 101, 114, 121]⟩] 9)
  have hb2 := new_at1 w (.cells #[.int .i64 k, .slice (some ⟨g, og, none⟩) n2 n3, .int .i64 so, .int .i64 nn, .int .i64 mm, .slice l1 l2 l3] 54) (.cells #[.string ⟨#[116, 114, 117, 101]⟩, .string ⟨#[102, 97, 108, 115, 101]⟩, .string ⟨#[61]⟩, .string ⟨#[105, 110]⟩, .string ⟨#[115, 117, 98]⟩, .string ⟨#[97, 100, 106]⟩, .string ⟨#[111, 110]⟩, .string ⟨#[]⟩, .string ⟨#[]⟩, .string ⟨#[]⟩, .string ⟨#[]⟩, .string ⟨#[110, 111, 116]⟩, .string ⟨#[97, 110, 100]⟩, .string ⟨#[111, 114]⟩, .string ⟨#[105, 109, 112, 108, 105, 101, 115]⟩, .string ⟨#[105, 102, 102]⟩, .string ⟨#[115, 111, 109, 101]⟩, .string ⟨#[101, 118, 101, 114, 121]⟩] 9)
  have hc : ((w.alloc (.cells #[.int .i64 k, .slice (some ⟨g, og, none⟩) n2 n3, .int .i64 so, .int .i64 nn, .int .i64 mm, .slice l1 l2 l3] 54)).alloc (.cells #[.string ⟨#[116, 114, 117, 101]⟩, .string ⟨#[102, 97, 108, 115, 101]⟩, .string ⟨#[61]⟩, .string ⟨#[105, 110]⟩, .string ⟨#[115, 117, 98]⟩, .string ⟨#[97, 100, 106]⟩, .string ⟨#[111, 110]⟩, .string ⟨#[]⟩, .string ⟨#[]⟩, .string ⟨#[]⟩, .string ⟨#[]⟩, .string ⟨#[110, 111, 116]⟩, .string ⟨#[97, 110, 100]⟩, .string ⟨#[111, 114]⟩, .string ⟨#[105, 109, 112, 108, 105, 101, 115]⟩, .string ⟨#[105, 102, 102]⟩, .string ⟨#[115, 111, 109, 101]⟩, .string ⟨#[101, 118, 101, 114, 121]⟩] 9)).cell? ⟨w.heap.size + 1, k, none⟩ = some (.string ⟨W.toArray⟩) := by
    rw [cell_of hb2]
    have hk : k = 2 ∨ k = 3 ∨ k = 4 ∨ k = 5 ∨ k = 6 ∨ k = 7 ∨ k = 8 ∨ k = 9 ∨ k = 10 ∨ k = 11 ∨ k = 12 ∨ k = 13 ∨ k = 14 ∨ k = 15 ∨ k = 16 ∨ k = 17 := by omega
    rcases hk with rfl | rfl | rfl | rfl | rfl | rfl | rfl | rfl | rfl | rfl | rfl | rfl | rfl | rfl | rfl | rfl <;> (cases hW; rfl)
  have q0 : ¬ ((k : Int) < 2) := by omega
  have q1 : (k : Int) < 7 := by omega
  have q2 : (0 : Int) < n2 := by omega
  have q3 : (1 : Int) < n2 := by omega
  have q4 : (k : Int) < 18 := by omega
  have q5 : (0 : Int) ≤ k := by omega
  have xa0 := cell_of hb1 0
  have xa1 := cell_of hb1 1
  have xa2 := cell_of hb1 2
  have xa3 := cell_of hb1 3
  have xa4 := cell_of hb1 4
  have xa5 := cell_of hb1 5
  simp only [List.getElem?_toArray, List.getElem?_cons_zero, List.getElem?_cons_succ] at xa0 xa1 xa2 xa3 xa4 xa5
  have ya0 := free_of hb1 0
  have ya1 := free_of hb1 1
  have ya2 := free_of hb1 2
  have ya3 := free_of hb1 3
  have ya4 := free_of hb1 4
  have ya5 := free_of hb1 5
  have e0 : ∀ u : Ext ((w.alloc (.cells #[.int .i64 k, .slice (some ⟨g, og, none⟩) n2 n3, .int .i64 so, .int .i64 nn, .int .i64 mm, .slice l1 l2 l3] 54)).alloc (.cells #[.string ⟨#[116, 114, 117, 101]⟩, .string ⟨#[102, 97, 108, 115, 101]⟩, .string ⟨#[61]⟩, .string ⟨#[105, 110]⟩, .string ⟨#[115, 117, 98]⟩, .string ⟨#[97, 100, 106]⟩, .string ⟨#[111, 110]⟩, .string ⟨#[]⟩, .string ⟨#[]⟩, .string ⟨#[]⟩, .string ⟨#[]⟩, .string ⟨#[110, 111, 116]⟩, .string ⟨#[97, 110, 100]⟩, .string ⟨#[111, 114]⟩, .string ⟨#[105, 109, 112, 108, 105, 101, 115]⟩, .string ⟨#[105, 102, 102]⟩, .string ⟨#[115, 111, 109, 101]⟩, .string ⟨#[101, 118, 101, 114, 121]⟩] 9)), u.w.cell? ⟨w.heap.size, 0, none⟩ = some (.int .i64 k) := fun u => u.cell (cell_of hb1 0)
  have e1 : ∀ u : Ext ((w.alloc (.cells #[.int .i64 k, .slice (some ⟨g, og, none⟩) n2 n3, .int .i64 so, .int .i64 nn, .int .i64 mm, .slice l1 l2 l3] 54)).alloc (.cells #[.string ⟨#[116, 114, 117, 101]⟩, .string ⟨#[102, 97, 108, 115, 101]⟩, .string ⟨#[61]⟩, .string ⟨#[105, 110]⟩, .string ⟨#[115, 117, 98]⟩, .string ⟨#[97, 100, 106]⟩, .string ⟨#[111, 110]⟩, .string ⟨#[]⟩, .string ⟨#[]⟩, .string ⟨#[]⟩, .string ⟨#[]⟩, .string ⟨#[110, 111, 116]⟩, .string ⟨#[97, 110, 100]⟩, .string ⟨#[111, 114]⟩, .string ⟨#[105, 109, 112, 108, 105, 101, 115]⟩, .string ⟨#[105, 102, 102]⟩, .string ⟨#[115, 111, 109, 101]⟩, .string ⟨#[101, 118, 101, 114, 121]⟩] 9)), u.w.cell? ⟨w.heap.size, 1, none⟩ = some (.slice (some ⟨g, og, none⟩) n2 n3) := fun u => u.cell (cell_of hb1 1)
  have e2 : ∀ u : Ext ((w.alloc (.cells #[.int .i64 k, .slice (some ⟨g, og, none⟩) n2 n3, .int .i64 so, .int .i64 nn, .int .i64 mm, .slice l1 l2 l3] 54)).alloc (.cells #[.string ⟨#[116, 114, 117, 101]⟩, .string ⟨#[102, 97, 108, 115, 101]⟩, .string ⟨#[61]⟩, .string ⟨#[105, 110]⟩, .string ⟨#[115, 117, 98]⟩, .string ⟨#[97, 100, 106]⟩, .string ⟨#[111, 110]⟩, .string ⟨#[]⟩, .string ⟨#[]⟩, .string ⟨#[]⟩, .string ⟨#[]⟩, .string ⟨#[110, 111, 116]⟩, .string ⟨#[97, 110, 100]⟩, .string ⟨#[111, 114]⟩, .string ⟨#[105, 109, 112, 108, 105, 101, 115]⟩, .string ⟨#[105, 102, 102]⟩, .string ⟨#[115, 111, 109, 101]⟩, .string ⟨#[101, 118, 101, 114, 121]⟩] 9)), u.w.cell? ⟨w.heap.size, 2, none⟩ = some (.int .i64 so) := fun u => u.cell (cell_of hb1 2)
  have e5 : ∀ u : Ext ((w.alloc (.cells #[.int .i64 k, .slice (some ⟨g, og, none⟩) n2 n3, .int .i64 so, .int .i64 nn, .int .i64 mm, .slice l1 l2 l3] 54)).alloc (.cells #[.string ⟨#[116, 114, 117, 101]⟩, .string ⟨#[102, 97, 108, 115, 101]⟩, .string ⟨#[61]⟩, .string ⟨#[105, 110]⟩, .string ⟨#[115, 117, 98]⟩, .string ⟨#[97, 100, 106]⟩, .string ⟨#[111, 110]⟩, .string ⟨#[]⟩, .string ⟨#[]⟩, .string ⟨#[]⟩, .string ⟨#[]⟩, .string ⟨#[110, 111, 116]⟩, .string ⟨#[97, 110, 100]⟩, .string ⟨#[111, 114]⟩, .string ⟨#[105, 109, 112, 108, 105, 101, 115]⟩, .string ⟨#[105, 102, 102]⟩, .string ⟨#[115, 111, 109, 101]⟩, .string ⟨#[101, 118, 101, 114, 121]⟩] 9)), u.w.cell? ⟨w.heap.size, 5, none⟩ = some (.slice l1 l2 l3) := fun u => u.cell (cell_of hb1 5)
  have ew : ∀ u : Ext ((w.alloc (.cells #[.int .i64 k, .slice (some ⟨g, og, none⟩) n2 n3, .int .i64 so, .int .i64 nn, .int .i64 mm, .slice l1 l2 l3] 54)).alloc (.cells #[.string ⟨#[116, 114, 117, 101]⟩, .string ⟨#[102, 97, 108, 115, 101]⟩, .string ⟨#[61]⟩, .string ⟨#[105, 110]⟩, .string ⟨#[115, 117, 98]⟩, .string ⟨#[97, 100, 106]⟩, .string ⟨#[111, 110]⟩, .string ⟨#[]⟩, .string ⟨#[]⟩, .string ⟨#[]⟩, .string ⟨#[]⟩, .string ⟨#[110, 111, 116]⟩, .string ⟨#[97, 110, 100]⟩, .string ⟨#[111, 114]⟩, .string ⟨#[105, 109, 112, 108, 105, 101, 115]⟩, .string ⟨#[105, 102, 102]⟩, .string ⟨#[115, 111, 109, 101]⟩, .string ⟨#[101, 118, 101, 114, 121]⟩] 9)), u.w.cell? ⟨w.heap.size + 1, k, none⟩ = some (.string ⟨W.toArray⟩) := fun u => u.cell hc
  have ex : ∀ u : Ext ((w.alloc (.cells #[.int .i64 k, .slice (some ⟨g, og, none⟩) n2 n3, .int .i64 so, .int .i64 nn, .int .i64 mm, .slice l1 l2 l3] 54)).alloc (.cells #[.string ⟨#[116, 114, 117, 101]⟩, .string ⟨#[102, 97, 108, 115, 101]⟩, .string ⟨#[61]⟩, .string ⟨#[105, 110]⟩, .string ⟨#[115, 117, 98]⟩, .string ⟨#[97, 100, 106]⟩, .string ⟨#[111, 110]⟩, .string ⟨#[]⟩, .string ⟨#[]⟩, .string ⟨#[]⟩, .string ⟨#[]⟩, .string ⟨#[110, 111, 116]⟩, .string ⟨#[97, 110, 100]⟩, .string ⟨#[111, 114]⟩, .string ⟨#[105, 109, 112, 108, 105, 101, 115]⟩, .string ⟨#[105, 102, 102]⟩, .string ⟨#[115, 111, 109, 101]⟩, .string ⟨#[101, 118, 101, 114, 121]⟩] 9)), u.w.cell? ⟨g, og, none⟩ = some (.string ⟨x.toArray⟩) := fun u => u.cell ((hu2.cell (p := ⟨g, og, none⟩) (World.block_lt_of_cell? w _ hx) (by simp)).trans hx)
  have ey : ∀ u : Ext ((w.alloc (.cells #[.int .i64 k, .slice (some ⟨g, og, none⟩) n2 n3, .int .i64 so, .int .i64 nn, .int .i64 mm, .slice l1 l2 l3] 54)).alloc (.cells #[.string ⟨#[116, 114, 117, 101]⟩, .string ⟨#[102, 97, 108, 115, 101]⟩, .string ⟨#[61]⟩, .string ⟨#[105, 110]⟩, .string ⟨#[115, 117, 98]⟩, .string ⟨#[97, 100, 106]⟩, .string ⟨#[111, 110]⟩, .string ⟨#[]⟩, .string ⟨#[]⟩, .string ⟨#[]⟩, .string ⟨#[]⟩, .string ⟨#[110, 111, 116]⟩, .string ⟨#[97, 110, 100]⟩, .string ⟨#[111, 114]⟩, .string ⟨#[105, 109, 112, 108, 105, 101, 115]⟩, .string ⟨#[105, 102, 102]⟩, .string ⟨#[115, 111, 109, 101]⟩, .string ⟨#[101, 118, 101, 114, 121]⟩] 9)), u.w.cell? ⟨g, og + 1, none⟩ = some (.string ⟨y.toArray⟩) := fun u => u.cell ((hu2.cell (p := ⟨g, og + 1, none⟩) (World.block_lt_of_cell? w _ hy) (by simp)).trans hy)
  have lW : W.length ≤ 10 := by
    have hk : k = 2 ∨ k = 3 ∨ k = 4 ∨ k = 5 ∨ k = 6 ∨ k = 7 ∨ k = 8 ∨ k = 9 ∨ k = 10 ∨ k = 11 ∨ k = 12 ∨ k = 13 ∨ k = 14 ∨ k = 15 ∨ k = 16 ∨ k = 17 := by omega
    rcases hk with rfl | rfl | rfl | rfl | rfl | rfl | rfl | rfl | rfl | rfl | rfl | rfl | rfl | rfl | rfl | rfl <;> (cases hW; simp)
  have sm0 : x.length + 1 ≤ 9223372036854775807 := by omega
  have sm1 : x.length + 1 + W.length ≤ 9223372036854775807 := by omega
  have sm2 : x.length + 1 + W.length + 1 ≤ 9223372036854775807 := by omega
  have sm3 : x.length + 1 + W.length + 1 + y.length ≤ 9223372036854775807 := by omega
  clear hu2 hb1 hb2 hc hW hx hy hlx hly
  go_enter Tryd.func49, Tryd.ntmps49
  go_wp2_with fail
  refine wp_region_seg_all [] [] [0, 1, 2, 3, 4, 5, 6, 7, 8, 9, 10, 11, 12, 13, 14, 15, 16, 17] (by kernel_rfl) (by kernel_rfl) ?_
  refine seg_plain rfl rfl rfl rfl rfl ?_
  intro K' hK'
  go_big_quiet_op
  go_big_quiet_on
  refine seg_plain rfl rfl rfl rfl rfl ?_
  intro K' hK'
  go_big_quiet_op
  go_big_quiet_on
  refine seg_plain rfl rfl rfl rfl rfl ?_
  intro K' hK'
  go_big_quiet_op
  go_big_quiet_on
  refine seg_plain rfl rfl rfl rfl rfl ?_
  intro K' hK'
  go_big_quiet_op
  go_big_quiet_on
  refine seg_plain rfl rfl rfl rfl rfl ?_
  intro K' hK'
  go_big_quiet_op
  go_big_quiet_on
  refine seg_plain rfl rfl rfl rfl rfl ?_
  intro K' hK'
  go_big_quiet_op
  go_big_quiet_on
  refine seg_plain rfl rfl rfl rfl rfl ?_
  intro K' hK'
  go_big_quiet_op
  go_big_quiet_on
  refine seg_plain rfl rfl rfl rfl rfl ?_
  intro K' hK'
  go_big_quiet_op
  go_big_quiet_on
  refine seg_plain rfl rfl rfl rfl rfl ?_
  intro K' hK'
  go_big_quiet_op
  go_big_quiet_on
  refine seg_plain rfl rfl rfl rfl rfl ?_
  intro K' hK'
  go_big_quiet_op
  go_big_quiet_on
  refine seg_plain rfl rfl rfl rfl rfl ?_
  intro K' hK'
  go_big_quiet_op
  go_big_quiet_on
  refine seg_plain rfl rfl rfl rfl rfl ?_
  intro K' hK'
  go_big_quiet_op
  go_big_quiet_on
  refine seg_plain rfl rfl rfl rfl rfl ?_
  intro K' hK'
  go_big_quiet_op
  go_big_quiet_on
  refine seg_plain rfl rfl rfl rfl rfl ?_
  intro K' hK'
  go_big_quiet_op
  go_big_quiet_on
  refine seg_plain rfl rfl rfl rfl rfl ?_
  intro K' hK'
  go_big_quiet_op
  go_big_quiet_on
  refine seg_plain rfl rfl rfl rfl rfl ?_
  intro K' hK'
  go_big_quiet_op
  go_big_quiet_on
  refine seg_plain rfl rfl rfl rfl rfl ?_
  intro K' hK'
  go_big_quiet_op
  go_big_quiet_on
  refine seg_plain rfl rfl rfl rfl rfl ?_
  intro K' hK'
  go_big_quiet_op
  go_big_quiet_on
  intro w9 hg
  have HU3 := Lib.hid (HU2.out.trans_ext hg.up)
  clear hg e0 e1 e2 e5 ew ex ey
  go_wp2_with fail
  go_ret
  exact ⟨congrArg (fun z => Ending.returned (.string z)) (show ByteArray.mk x.toArray ++ ByteArray.mk [32].toArray ++ ByteArray.mk W.toArray ++ ByteArray.mk [32].toArray ++ ByteArray.mk y.toArray = ⟨(x ++ [32] ++ W ++ [32] ++ y).toArray⟩ by simp only [ByteArray.mk_append_mk]), HU3.out⟩


set_option maxRecDepth 100000 in
set_option maxHeartbeats 6400000 in
theorem full_bin (w : World) (k : Nat) (n1 : Option Addr) (n2 n3 l2 l3 : Nat) (so nn mm : Int) (W : List UInt8) (hW : wordsF[k]? = some W) (hk : 12 ≤ k ∧ k < 16) (g og : Nat) (P : Nat → Prop) (a b : Nd) (sa sb : List UInt8) (hl2 : 2 ≤ l2) (hx : NdsV w P g og [a, b]) (hlx : sa.length ≤ 1000000000000) (hly : sb.length ≤ 1000000000000) (ha : Says w P a sa) (hb : Says w P b sb) :
    Calls Tryd.prog 49 #[.agg #[.int .i64 k, .slice n1 n2 n3, .int .i64 so, .int .i64 nn, .int .i64 mm, .slice (some ⟨g, og, none⟩) l2 l3]] w fun e w' => e = .returned (.string ⟨([40] ++ sa ++ [41, 32] ++ W ++ [32, 40] ++ sb ++ [41]).toArray⟩) ∧ Upto [] w w' := by
  have hu2 : Upto [] w ((w.alloc (.cells #[.int .i64 k, .slice n1 n2 n3, .int .i64 so, .int .i64 nn, .int .i64 mm, .slice (some ⟨g, og, none⟩) l2 l3] 54)).alloc (.cells #[.string ⟨#[116, 114, 117, 101]⟩, .string ⟨#[102, 97, 108, 115, 101]⟩, .string ⟨#[61]⟩, .string ⟨#[105, 110]⟩, .string ⟨#[115, 117, 98]⟩, .string ⟨#[97, 100, 106]⟩, .string ⟨#[111, 110]⟩, .string ⟨#[]⟩, .string ⟨#[]⟩, .string ⟨#[]⟩, .string ⟨#[]⟩, .string ⟨#[110, 111, 116]⟩, .string ⟨#[97, 110, 100]⟩, .string ⟨#[111, 114]⟩, .string ⟨#[105, 109, 112, 108, 105, 101, 115]⟩, .string ⟨#[105, 102, 102]⟩, .string ⟨#[115, 111, 109, 101]⟩, .string ⟨#[101, 118, 101, 114, 121]⟩] 9)) := ((Upto.refl [] w).alloc _).alloc _
  have HU2 := Lib.hid hu2
  have hb1 := alloc_old (new_at w (.cells #[.int .i64 k, .slice n1 n2 n3, .int .i64 so, .int .i64 nn, .int .i64 mm, .slice (some ⟨g, og, none⟩) l2 l3] 54)) (.cells #[.string ⟨#[116, 114, 117, 101]⟩, .string ⟨#[102, 97, 108, 115, 101]⟩, .string ⟨#[61]⟩, .string ⟨#[105, 110]⟩, .string ⟨#[115, 117, 98]⟩, .string ⟨#[97, 100, 106]⟩, .string ⟨#[111, 110]⟩, .string ⟨#[]⟩, .string ⟨#[]⟩, .string ⟨#[]⟩, .string ⟨#[]⟩, .string ⟨#[110, 111, 116]⟩, .string ⟨#[97, 110, 100]⟩, .string ⟨#[111, 114]⟩, .string ⟨#[105, 109, 112, 108, 105, 101, 115]⟩, .string ⟨#[105, 102, 102]⟩, .string ⟨#[115, 111, 109, 101]⟩, .string ⟨#[101, 118, 101, 114, 121]⟩] 9)
  have hb2 := new_at1 w (.cells #[.int .i64 k, .slice n1 n2 n3, .int .i64 so, .int .i64 nn, .int .i64 mm, .slice (some ⟨g, og, none⟩) l2 l3] 54) (.cells #[.string ⟨#[116, 114, 117, 101]⟩, .string ⟨#[102, 97, 108, 115, 101]⟩, .string ⟨#[61]⟩, .string ⟨#[105, 110]⟩, .string ⟨#[115, 117, 98]⟩, .string ⟨#[97, 100, 106]⟩, .string ⟨#[111, 110]⟩, .string ⟨#[]⟩, .string ⟨#[]⟩, .string ⟨#[]⟩, .string ⟨#[]⟩, .string ⟨#[110, 111, 116]⟩, .string ⟨#[97, 110, 100]⟩, .string ⟨#[111, 114]⟩, .string ⟨#[105, 109, 112, 108, 105, 101, 115]⟩, .string ⟨#[105, 102, 102]⟩, .string ⟨#[115, 111, 109, 101]⟩, .string ⟨#[101, 118, 101, 114, 121]⟩] 9)
  have hc : ((w.alloc (.cells #[.int .i64 k, .slice n1 n2 n3, .int .i64 so, .int .i64 nn, .int .i64 mm, .slice (some ⟨g, og, none⟩) l2 l3] 54)).alloc (.cells #[.string ⟨#[116, 114, 117, 101]⟩, .string ⟨#[102, 97, 108, 115, 101]⟩, .string ⟨#[61]⟩, .string ⟨#[105, 110]⟩, .string ⟨#[115, 117, 98]⟩, .string ⟨#[97, 100, 106]⟩, .string ⟨#[111, 110]⟩, .string ⟨#[]⟩, .string ⟨#[]⟩, .string ⟨#[]⟩, .string ⟨#[]⟩, .string ⟨#[110, 111, 116]⟩, .string ⟨#[97, 110, 100]⟩, .string ⟨#[111, 114]⟩, .string ⟨#[105, 109, 112, 108, 105, 101, 115]⟩, .string ⟨#[105, 102, 102]⟩, .string ⟨#[115, 111, 109, 101]⟩, .string ⟨#[101, 118, 101, 114, 121]⟩] 9)).cell? ⟨w.heap.size + 1, k, none⟩ = some (.string ⟨W.toArray⟩) := by
    rw [cell_of hb2]
    have hk : k = 2 ∨ k = 3 ∨ k = 4 ∨ k = 5 ∨ k = 6 ∨ k = 7 ∨ k = 8 ∨ k = 9 ∨ k = 10 ∨ k = 11 ∨ k = 12 ∨ k = 13 ∨ k = 14 ∨ k = 15 ∨ k = 16 ∨ k = 17 := by omega
    rcases hk with rfl | rfl | rfl | rfl | rfl | rfl | rfl | rfl | rfl | rfl | rfl | rfl | rfl | rfl | rfl | rfl <;> (cases hW; rfl)
  have q0 : ¬ ((k : Int) < 2) := by omega
  have q1 : ¬ ((k : Int) < 7) := by omega
  have q2 : ((k : Int) == 7) = false := by simp; omega
  have q3 : ((k : Int) == 8) = false := by simp; omega
  have q4 : ((k : Int) == 9) = false := by simp; omega
  have q5 : ((k : Int) == 10) = false := by simp; omega
  have q6 : ((k : Int) == 11) = false := by simp; omega
  have q7 : (k : Int) < 16 := by omega
  have q8 : (0 : Int) < l2 := by omega
  have q9 : (1 : Int) < l2 := by omega
  have q10 : (k : Int) < 18 := by omega
  have q11 : (0 : Int) ≤ k := by omega
  have xa0 := cell_of hb1 0
  have xa1 := cell_of hb1 1
  have xa2 := cell_of hb1 2
  have xa3 := cell_of hb1 3
  have xa4 := cell_of hb1 4
  have xa5 := cell_of hb1 5
  simp only [List.getElem?_toArray, List.getElem?_cons_zero, List.getElem?_cons_succ] at xa0 xa1 xa2 xa3 xa4 xa5
  have ya0 := free_of hb1 0
  have ya1 := free_of hb1 1
  have ya2 := free_of hb1 2
  have ya3 := free_of hb1 3
  have ya4 := free_of hb1 4
  have ya5 := free_of hb1 5
  have e0 : ∀ u : Ext ((w.alloc (.cells #[.int .i64 k, .slice n1 n2 n3, .int .i64 so, .int .i64 nn, .int .i64 mm, .slice (some ⟨g, og, none⟩) l2 l3] 54)).alloc (.cells #[.string ⟨#[116, 114, 117, 101]⟩, .string ⟨#[102, 97, 108, 115, 101]⟩, .string ⟨#[61]⟩, .string ⟨#[105, 110]⟩, .string ⟨#[115, 117, 98]⟩, .string ⟨#[97, 100, 106]⟩, .string ⟨#[111, 110]⟩, .string ⟨#[]⟩, .string ⟨#[]⟩, .string ⟨#[]⟩, .string ⟨#[]⟩, .string ⟨#[110, 111, 116]⟩, .string ⟨#[97, 110, 100]⟩, .string ⟨#[111, 114]⟩, .string ⟨#[105, 109, 112, 108, 105, 101, 115]⟩, .string ⟨#[105, 102, 102]⟩, .string ⟨#[115, 111, 109, 101]⟩, .string ⟨#[101, 118, 101, 114, 121]⟩] 9)), u.w.cell? ⟨w.heap.size, 0, none⟩ = some (.int .i64 k) := fun u => u.cell (cell_of hb1 0)
  have e1 : ∀ u : Ext ((w.alloc (.cells #[.int .i64 k, .slice n1 n2 n3, .int .i64 so, .int .i64 nn, .int .i64 mm, .slice (some ⟨g, og, none⟩) l2 l3] 54)).alloc (.cells #[.string ⟨#[116, 114, 117, 101]⟩, .string ⟨#[102, 97, 108, 115, 101]⟩, .string ⟨#[61]⟩, .string ⟨#[105, 110]⟩, .string ⟨#[115, 117, 98]⟩, .string ⟨#[97, 100, 106]⟩, .string ⟨#[111, 110]⟩, .string ⟨#[]⟩, .string ⟨#[]⟩, .string ⟨#[]⟩, .string ⟨#[]⟩, .string ⟨#[110, 111, 116]⟩, .string ⟨#[97, 110, 100]⟩, .string ⟨#[111, 114]⟩, .string ⟨#[105, 109, 112, 108, 105, 101, 115]⟩, .string ⟨#[105, 102, 102]⟩, .string ⟨#[115, 111, 109, 101]⟩, .string ⟨#[101, 118, 101, 114, 121]⟩] 9)), u.w.cell? ⟨w.heap.size, 1, none⟩ = some (.slice n1 n2 n3) := fun u => u.cell (cell_of hb1 1)
  have e2 : ∀ u : Ext ((w.alloc (.cells #[.int .i64 k, .slice n1 n2 n3, .int .i64 so, .int .i64 nn, .int .i64 mm, .slice (some ⟨g, og, none⟩) l2 l3] 54)).alloc (.cells #[.string ⟨#[116, 114, 117, 101]⟩, .string ⟨#[102, 97, 108, 115, 101]⟩, .string ⟨#[61]⟩, .string ⟨#[105, 110]⟩, .string ⟨#[115, 117, 98]⟩, .string ⟨#[97, 100, 106]⟩, .string ⟨#[111, 110]⟩, .string ⟨#[]⟩, .string ⟨#[]⟩, .string ⟨#[]⟩, .string ⟨#[]⟩, .string ⟨#[110, 111, 116]⟩, .string ⟨#[97, 110, 100]⟩, .string ⟨#[111, 114]⟩, .string ⟨#[105, 109, 112, 108, 105, 101, 115]⟩, .string ⟨#[105, 102, 102]⟩, .string ⟨#[115, 111, 109, 101]⟩, .string ⟨#[101, 118, 101, 114, 121]⟩] 9)), u.w.cell? ⟨w.heap.size, 2, none⟩ = some (.int .i64 so) := fun u => u.cell (cell_of hb1 2)
  have e5 : ∀ u : Ext ((w.alloc (.cells #[.int .i64 k, .slice n1 n2 n3, .int .i64 so, .int .i64 nn, .int .i64 mm, .slice (some ⟨g, og, none⟩) l2 l3] 54)).alloc (.cells #[.string ⟨#[116, 114, 117, 101]⟩, .string ⟨#[102, 97, 108, 115, 101]⟩, .string ⟨#[61]⟩, .string ⟨#[105, 110]⟩, .string ⟨#[115, 117, 98]⟩, .string ⟨#[97, 100, 106]⟩, .string ⟨#[111, 110]⟩, .string ⟨#[]⟩, .string ⟨#[]⟩, .string ⟨#[]⟩, .string ⟨#[]⟩, .string ⟨#[110, 111, 116]⟩, .string ⟨#[97, 110, 100]⟩, .string ⟨#[111, 114]⟩, .string ⟨#[105, 109, 112, 108, 105, 101, 115]⟩, .string ⟨#[105, 102, 102]⟩, .string ⟨#[115, 111, 109, 101]⟩, .string ⟨#[101, 118, 101, 114, 121]⟩] 9)), u.w.cell? ⟨w.heap.size, 5, none⟩ = some (.slice (some ⟨g, og, none⟩) l2 l3) := fun u => u.cell (cell_of hb1 5)
  have ew : ∀ u : Ext ((w.alloc (.cells #[.int .i64 k, .slice n1 n2 n3, .int .i64 so, .int .i64 nn, .int .i64 mm, .slice (some ⟨g, og, none⟩) l2 l3] 54)).alloc (.cells #[.string ⟨#[116, 114, 117, 101]⟩, .string ⟨#[102, 97, 108, 115, 101]⟩, .string ⟨#[61]⟩, .string ⟨#[105, 110]⟩, .string ⟨#[115, 117, 98]⟩, .string ⟨#[97, 100, 106]⟩, .string ⟨#[111, 110]⟩, .string ⟨#[]⟩, .string ⟨#[]⟩, .string ⟨#[]⟩, .string ⟨#[]⟩, .string ⟨#[110, 111, 116]⟩, .string ⟨#[97, 110, 100]⟩, .string ⟨#[111, 114]⟩, .string ⟨#[105, 109, 112, 108, 105, 101, 115]⟩, .string ⟨#[105, 102, 102]⟩, .string ⟨#[115, 111, 109, 101]⟩, .string ⟨#[101, 118, 101, 114, 121]⟩] 9)), u.w.cell? ⟨w.heap.size + 1, k, none⟩ = some (.string ⟨W.toArray⟩) := fun u => u.cell hc
  unfold NdsV NdsV NdsV at hx
  obtain ⟨⟨_, _, _, _, _, _, ac0, ac1, ac2, ac3, ac4, ac5, an⟩, ⟨_, _, _, _, _, _, bc0, bc1, bc2, bc3, bc4, bc5, bn⟩, -⟩ := hx
  obtain ⟨ao, an1, an2, an3, aso, am, aq, al1, al2, al3, ae⟩ := an.six
  simp only [Value.agg.injEq, Array.mk.injEq, List.cons.injEq, and_true] at ae
  obtain ⟨rfl, rfl, rfl, rfl, rfl, rfl⟩ := ae
  have af0 : ∀ u : Ext ((w.alloc (.cells #[.int .i64 k, .slice n1 n2 n3, .int .i64 so, .int .i64 nn, .int .i64 mm, .slice (some ⟨g, og, none⟩) l2 l3] 54)).alloc (.cells #[.string ⟨#[116, 114, 117, 101]⟩, .string ⟨#[102, 97, 108, 115, 101]⟩, .string ⟨#[61]⟩, .string ⟨#[105, 110]⟩, .string ⟨#[115, 117, 98]⟩, .string ⟨#[97, 100, 106]⟩, .string ⟨#[111, 110]⟩, .string ⟨#[]⟩, .string ⟨#[]⟩, .string ⟨#[]⟩, .string ⟨#[]⟩, .string ⟨#[110, 111, 116]⟩, .string ⟨#[97, 110, 100]⟩, .string ⟨#[111, 114]⟩, .string ⟨#[105, 109, 112, 108, 105, 101, 115]⟩, .string ⟨#[105, 102, 102]⟩, .string ⟨#[115, 111, 109, 101]⟩, .string ⟨#[101, 118, 101, 114, 121]⟩] 9)), u.w.cell? ⟨g, og, none⟩ = some _ := fun u => u.cell ((hu2.cell (p := ⟨g, og, none⟩) (World.block_lt_of_cell? w _ ac0) (by simp)).trans ac0)
  have af1 : ∀ u : Ext ((w.alloc (.cells #[.int .i64 k, .slice n1 n2 n3, .int .i64 so, .int .i64 nn, .int .i64 mm, .slice (some ⟨g, og, none⟩) l2 l3] 54)).alloc (.cells #[.string ⟨#[116, 114, 117, 101]⟩, .string ⟨#[102, 97, 108, 115, 101]⟩, .string ⟨#[61]⟩, .string ⟨#[105, 110]⟩, .string ⟨#[115, 117, 98]⟩, .string ⟨#[97, 100, 106]⟩, .string ⟨#[111, 110]⟩, .string ⟨#[]⟩, .string ⟨#[]⟩, .string ⟨#[]⟩, .string ⟨#[]⟩, .string ⟨#[110, 111, 116]⟩, .string ⟨#[97, 110, 100]⟩, .string ⟨#[111, 114]⟩, .string ⟨#[105, 109, 112, 108, 105, 101, 115]⟩, .string ⟨#[105, 102, 102]⟩, .string ⟨#[115, 111, 109, 101]⟩, .string ⟨#[101, 118, 101, 114, 121]⟩] 9)), u.w.cell? ⟨g, og + 1, none⟩ = some _ := fun u => u.cell ((hu2.cell (p := ⟨g, og + 1, none⟩) (World.block_lt_of_cell? w _ ac1) (by simp)).trans ac1)
  have af2 : ∀ u : Ext ((w.alloc (.cells #[.int .i64 k, .slice n1 n2 n3, .int .i64 so, .int .i64 nn, .int .i64 mm, .slice (some ⟨g, og, none⟩) l2 l3] 54)).alloc (.cells #[.string ⟨#[116, 114, 117, 101]⟩, .string ⟨#[102, 97, 108, 115, 101]⟩, .string ⟨#[61]⟩, .string ⟨#[105, 110]⟩, .string ⟨#[115, 117, 98]⟩, .string ⟨#[97, 100, 106]⟩, .string ⟨#[111, 110]⟩, .string ⟨#[]⟩, .string ⟨#[]⟩, .string ⟨#[]⟩, .string ⟨#[]⟩, .string ⟨#[110, 111, 116]⟩, .string ⟨#[97, 110, 100]⟩, .string ⟨#[111, 114]⟩, .string ⟨#[105, 109, 112, 108, 105, 101, 115]⟩, .string ⟨#[105, 102, 102]⟩, .string ⟨#[115, 111, 109, 101]⟩, .string ⟨#[101, 118, 101, 114, 121]⟩] 9)), u.w.cell? ⟨g, og + 2, none⟩ = some _ := fun u => u.cell ((hu2.cell (p := ⟨g, og + 2, none⟩) (World.block_lt_of_cell? w _ ac2) (by simp)).trans ac2)
  have af3 : ∀ u : Ext ((w.alloc (.cells #[.int .i64 k, .slice n1 n2 n3, .int .i64 so, .int .i64 nn, .int .i64 mm, .slice (some ⟨g, og, none⟩) l2 l3] 54)).alloc (.cells #[.string ⟨#[116, 114, 117, 101]⟩, .string ⟨#[102, 97, 108, 115, 101]⟩, .string ⟨#[61]⟩, .string ⟨#[105, 110]⟩, .string ⟨#[115, 117, 98]⟩, .string ⟨#[97, 100, 106]⟩, .string ⟨#[111, 110]⟩, .string ⟨#[]⟩, .string ⟨#[]⟩, .string ⟨#[]⟩, .string ⟨#[]⟩, .string ⟨#[110, 111, 116]⟩, .string ⟨#[97, 110, 100]⟩, .string ⟨#[111, 114]⟩, .string ⟨#[105, 109, 112, 108, 105, 101, 115]⟩, .string ⟨#[105, 102, 102]⟩, .string ⟨#[115, 111, 109, 101]⟩, .string ⟨#[101, 118, 101, 114, 121]⟩] 9)), u.w.cell? ⟨g, og + 3, none⟩ = some _ := fun u => u.cell ((hu2.cell (p := ⟨g, og + 3, none⟩) (World.block_lt_of_cell? w _ ac3) (by simp)).trans ac3)
  have af4 : ∀ u : Ext ((w.alloc (.cells #[.int .i64 k, .slice n1 n2 n3, .int .i64 so, .int .i64 nn, .int .i64 mm, .slice (some ⟨g, og, none⟩) l2 l3] 54)).alloc (.cells #[.string ⟨#[116, 114, 117, 101]⟩, .string ⟨#[102, 97, 108, 115, 101]⟩, .string ⟨#[61]⟩, .string ⟨#[105, 110]⟩, .string ⟨#[115, 117, 98]⟩, .string ⟨#[97, 100, 106]⟩, .string ⟨#[111, 110]⟩, .string ⟨#[]⟩, .string ⟨#[]⟩, .string ⟨#[]⟩, .string ⟨#[]⟩, .string ⟨#[110, 111, 116]⟩, .string ⟨#[97, 110, 100]⟩, .string ⟨#[111, 114]⟩, .string ⟨#[105, 109, 112, 108, 105, 101, 115]⟩, .string ⟨#[105, 102, 102]⟩, .string ⟨#[115, 111, 109, 101]⟩, .string ⟨#[101, 118, 101, 114, 121]⟩] 9)), u.w.cell? ⟨g, og + 4, none⟩ = some _ := fun u => u.cell ((hu2.cell (p := ⟨g, og + 4, none⟩) (World.block_lt_of_cell? w _ ac4) (by simp)).trans ac4)
  have af5 : ∀ u : Ext ((w.alloc (.cells #[.int .i64 k, .slice n1 n2 n3, .int .i64 so, .int .i64 nn, .int .i64 mm, .slice (some ⟨g, og, none⟩) l2 l3] 54)).alloc (.cells #[.string ⟨#[116, 114, 117, 101]⟩, .string ⟨#[102, 97, 108, 115, 101]⟩, .string ⟨#[61]⟩, .string ⟨#[105, 110]⟩, .string ⟨#[115, 117, 98]⟩, .string ⟨#[97, 100, 106]⟩, .string ⟨#[111, 110]⟩, .string ⟨#[]⟩, .string ⟨#[]⟩, .string ⟨#[]⟩, .string ⟨#[]⟩, .string ⟨#[110, 111, 116]⟩, .string ⟨#[97, 110, 100]⟩, .string ⟨#[111, 114]⟩, .string ⟨#[105, 109, 112, 108, 105, 101, 115]⟩, .string ⟨#[105, 102, 102]⟩, .string ⟨#[115, 111, 109, 101]⟩, .string ⟨#[101, 118, 101, 114, 121]⟩] 9)), u.w.cell? ⟨g, og + 5, none⟩ = some _ := fun u => u.cell ((hu2.cell (p := ⟨g, og + 5, none⟩) (World.block_lt_of_cell? w _ ac5) (by simp)).trans ac5)
  have aN := Lib.hid (an.ext hu2)
  obtain ⟨bo, bn1, bn2, bn3, bso, bm, bq, bl1, bl2, bl3, be⟩ := bn.six
  simp only [Value.agg.injEq, Array.mk.injEq, List.cons.injEq, and_true] at be
  obtain ⟨rfl, rfl, rfl, rfl, rfl, rfl⟩ := be
  have bf0 : ∀ u : Ext ((w.alloc (.cells #[.int .i64 k, .slice n1 n2 n3, .int .i64 so, .int .i64 nn, .int .i64 mm, .slice (some ⟨g, og, none⟩) l2 l3] 54)).alloc (.cells #[.string ⟨#[116, 114, 117, 101]⟩, .string ⟨#[102, 97, 108, 115, 101]⟩, .string ⟨#[61]⟩, .string ⟨#[105, 110]⟩, .string ⟨#[115, 117, 98]⟩, .string ⟨#[97, 100, 106]⟩, .string ⟨#[111, 110]⟩, .string ⟨#[]⟩, .string ⟨#[]⟩, .string ⟨#[]⟩, .string ⟨#[]⟩, .string ⟨#[110, 111, 116]⟩, .string ⟨#[97, 110, 100]⟩, .string ⟨#[111, 114]⟩, .string ⟨#[105, 109, 112, 108, 105, 101, 115]⟩, .string ⟨#[105, 102, 102]⟩, .string ⟨#[115, 111, 109, 101]⟩, .string ⟨#[101, 118, 101, 114, 121]⟩] 9)), u.w.cell? ⟨g, og + 6, none⟩ = some _ := fun u => u.cell ((hu2.cell (p := ⟨g, og + 6, none⟩) (World.block_lt_of_cell? w _ bc0) (by simp)).trans bc0)
  have bf1 : ∀ u : Ext ((w.alloc (.cells #[.int .i64 k, .slice n1 n2 n3, .int .i64 so, .int .i64 nn, .int .i64 mm, .slice (some ⟨g, og, none⟩) l2 l3] 54)).alloc (.cells #[.string ⟨#[116, 114, 117, 101]⟩, .string ⟨#[102, 97, 108, 115, 101]⟩, .string ⟨#[61]⟩, .string ⟨#[105, 110]⟩, .string ⟨#[115, 117, 98]⟩, .string ⟨#[97, 100, 106]⟩, .string ⟨#[111, 110]⟩, .string ⟨#[]⟩, .string ⟨#[]⟩, .string ⟨#[]⟩, .string ⟨#[]⟩, .string ⟨#[110, 111, 116]⟩, .string ⟨#[97, 110, 100]⟩, .string ⟨#[111, 114]⟩, .string ⟨#[105, 109, 112, 108, 105, 101, 115]⟩, .string ⟨#[105, 102, 102]⟩, .string ⟨#[115, 111, 109, 101]⟩, .string ⟨#[101, 118, 101, 114, 121]⟩] 9)), u.w.cell? ⟨g, og + 6 + 1, none⟩ = some _ := fun u => u.cell ((hu2.cell (p := ⟨g, og + 6 + 1, none⟩) (World.block_lt_of_cell? w _ bc1) (by simp)).trans bc1)
  have bf2 : ∀ u : Ext ((w.alloc (.cells #[.int .i64 k, .slice n1 n2 n3, .int .i64 so, .int .i64 nn, .int .i64 mm, .slice (some ⟨g, og, none⟩) l2 l3] 54)).alloc (.cells #[.string ⟨#[116, 114, 117, 101]⟩, .string ⟨#[102, 97, 108, 115, 101]⟩, .string ⟨#[61]⟩, .string ⟨#[105, 110]⟩, .string ⟨#[115, 117, 98]⟩, .string ⟨#[97, 100, 106]⟩, .string ⟨#[111, 110]⟩, .string ⟨#[]⟩, .string ⟨#[]⟩, .string ⟨#[]⟩, .string ⟨#[]⟩, .string ⟨#[110, 111, 116]⟩, .string ⟨#[97, 110, 100]⟩, .string ⟨#[111, 114]⟩, .string ⟨#[105, 109, 112, 108, 105, 101, 115]⟩, .string ⟨#[105, 102, 102]⟩, .string ⟨#[115, 111, 109, 101]⟩, .string ⟨#[101, 118, 101, 114, 121]⟩] 9)), u.w.cell? ⟨g, og + 6 + 2, none⟩ = some _ := fun u => u.cell ((hu2.cell (p := ⟨g, og + 6 + 2, none⟩) (World.block_lt_of_cell? w _ bc2) (by simp)).trans bc2)
  have bf3 : ∀ u : Ext ((w.alloc (.cells #[.int .i64 k, .slice n1 n2 n3, .int .i64 so, .int .i64 nn, .int .i64 mm, .slice (some ⟨g, og, none⟩) l2 l3] 54)).alloc (.cells #[.string ⟨#[116, 114, 117, 101]⟩, .string ⟨#[102, 97, 108, 115, 101]⟩, .string ⟨#[61]⟩, .string ⟨#[105, 110]⟩, .string ⟨#[115, 117, 98]⟩, .string ⟨#[97, 100, 106]⟩, .string ⟨#[111, 110]⟩, .string ⟨#[]⟩, .string ⟨#[]⟩, .string ⟨#[]⟩, .string ⟨#[]⟩, .string ⟨#[110, 111, 116]⟩, .string ⟨#[97, 110, 100]⟩, .string ⟨#[111, 114]⟩, .string ⟨#[105, 109, 112, 108, 105, 101, 115]⟩, .string ⟨#[105, 102, 102]⟩, .string ⟨#[115, 111, 109, 101]⟩, .string ⟨#[101, 118, 101, 114, 121]⟩] 9)), u.w.cell? ⟨g, og + 6 + 3, none⟩ = some _ := fun u => u.cell ((hu2.cell (p := ⟨g, og + 6 + 3, none⟩) (World.block_lt_of_cell? w _ bc3) (by simp)).trans bc3)
  have bf4 : ∀ u : Ext ((w.alloc (.cells #[.int .i64 k, .slice n1 n2 n3, .int .i64 so, .int .i64 nn, .int .i64 mm, .slice (some ⟨g, og, none⟩) l2 l3] 54)).alloc (.cells #[.string ⟨#[116, 114, 117, 101]⟩, .string ⟨#[102, 97, 108, 115, 101]⟩, .string ⟨#[61]⟩, .string ⟨#[105, 110]⟩, .string ⟨#[115, 117, 98]⟩, .string ⟨#[97, 100, 106]⟩, .string ⟨#[111, 110]⟩, .string ⟨#[]⟩, .string ⟨#[]⟩, .string ⟨#[]⟩, .string ⟨#[]⟩, .string ⟨#[110, 111, 116]⟩, .string ⟨#[97, 110, 100]⟩, .string ⟨#[111, 114]⟩, .string ⟨#[105, 109, 112, 108, 105, 101, 115]⟩, .string ⟨#[105, 102, 102]⟩, .string ⟨#[115, 111, 109, 101]⟩, .string ⟨#[101, 118, 101, 114, 121]⟩] 9)), u.w.cell? ⟨g, og + 6 + 4, none⟩ = some _ := fun u => u.cell ((hu2.cell (p := ⟨g, og + 6 + 4, none⟩) (World.block_lt_of_cell? w _ bc4) (by simp)).trans bc4)
  have bf5 : ∀ u : Ext ((w.alloc (.cells #[.int .i64 k, .slice n1 n2 n3, .int .i64 so, .int .i64 nn, .int .i64 mm, .slice (some ⟨g, og, none⟩) l2 l3] 54)).alloc (.cells #[.string ⟨#[116, 114, 117, 101]⟩, .string ⟨#[102, 97, 108, 115, 101]⟩, .string ⟨#[61]⟩, .string ⟨#[105, 110]⟩, .string ⟨#[115, 117, 98]⟩, .string ⟨#[97, 100, 106]⟩, .string ⟨#[111, 110]⟩, .string ⟨#[]⟩, .string ⟨#[]⟩, .string ⟨#[]⟩, .string ⟨#[]⟩, .string ⟨#[110, 111, 116]⟩, .string ⟨#[97, 110, 100]⟩, .string ⟨#[111, 114]⟩, .string ⟨#[105, 109, 112, 108, 105, 101, 115]⟩, .string ⟨#[105, 102, 102]⟩, .string ⟨#[115, 111, 109, 101]⟩, .string ⟨#[101, 118, 101, 114, 121]⟩] 9)), u.w.cell? ⟨g, og + 6 + 5, none⟩ = some _ := fun u => u.cell ((hu2.cell (p := ⟨g, og + 6 + 5, none⟩) (World.block_lt_of_cell? w _ bc5) (by simp)).trans bc5)
  have bN := Lib.hid (bn.ext hu2)
  have HA := Lib.hid ha
  have HB := Lib.hid hb
  have lW : W.length ≤ 10 := by
    have hk : k = 2 ∨ k = 3 ∨ k = 4 ∨ k = 5 ∨ k = 6 ∨ k = 7 ∨ k = 8 ∨ k = 9 ∨ k = 10 ∨ k = 11 ∨ k = 12 ∨ k = 13 ∨ k = 14 ∨ k = 15 ∨ k = 16 ∨ k = 17 := by omega
    rcases hk with rfl | rfl | rfl | rfl | rfl | rfl | rfl | rfl | rfl | rfl | rfl | rfl | rfl | rfl | rfl | rfl <;> (cases hW; simp)
  have sm0 : 1 + sa.length ≤ 9223372036854775807 := by omega
  have sm1 : 1 + sa.length + 2 ≤ 9223372036854775807 := by omega
  have sm2 : 1 + sa.length + 2 + W.length ≤ 9223372036854775807 := by omega
  have sm3 : 1 + sa.length + 2 + W.length + 2 ≤ 9223372036854775807 := by omega
  have sm4 : 1 + sa.length + 2 + W.length + 2 + sb.length ≤ 9223372036854775807 := by omega
  have sm5 : 1 + sa.length + 2 + W.length + 2 + sb.length + 1 ≤ 9223372036854775807 := by omega
  clear hu2 hb1 hb2 hc hW ha hb an bn ac0 ac1 ac2 ac3 ac4 ac5 bc0 bc1 bc2 bc3 bc4 bc5
  go_enter Tryd.func49, Tryd.ntmps49
  go_wp2_with fail
  refine wp_region_seg_all [4, 18] [] [0, 1, 2, 3, 4, 5, 6, 7, 8, 9, 10, 11, 12, 13, 14, 15, 16, 17, 18, 19, 20, 21] (by kernel_rfl) (by kernel_rfl) ?_
  refine seg_plain rfl rfl rfl rfl rfl ?_
  intro K' hK'
  go_big_quiet_op
  go_big_quiet_on
  refine seg_plain rfl rfl rfl rfl rfl ?_
  intro K' hK'
  go_big_quiet_op
  go_big_quiet_on
  refine seg_plain rfl rfl rfl rfl rfl ?_
  intro K' hK'
  go_big_quiet_op
  go_big_quiet_on
  refine seg_plain rfl rfl rfl rfl rfl ?_
  intro K' hK'
  go_big_quiet_op
  go_big_quiet_on
  refine seg_call rfl rfl rfl rfl (fun w => by go_simp) (fun w hu hd => (HA.out _ _ (HU2.out.trans_ext hu) (aN.out.ext hu)).mono fun e w' h => ⟨h.1, h.2⟩) ?_
  simp only [Act.put, List.setIfInBounds_toArray, List.set_cons_zero, List.set_cons_succ]
  refine seg_plain rfl rfl rfl rfl rfl ?_
  intro K' hK'
  go_big_quiet_op
  go_big_quiet_on
  refine seg_plain rfl rfl rfl rfl rfl ?_
  intro K' hK'
  go_big_quiet_op
  go_big_quiet_on
  refine seg_plain rfl rfl rfl rfl rfl ?_
  intro K' hK'
  go_big_quiet_op
  go_big_quiet_on
  refine seg_plain rfl rfl rfl rfl rfl ?_
  intro K' hK'
  go_big_quiet_op
  go_big_quiet_on
  refine seg_plain rfl rfl rfl rfl rfl ?_
  intro K' hK'
  go_big_quiet_op
  go_big_quiet_on
  refine seg_plain rfl rfl rfl rfl rfl ?_
  intro K' hK'
  go_big_quiet_op
  go_big_quiet_on
  refine seg_plain rfl rfl rfl rfl rfl ?_
  intro K' hK'
  go_big_quiet_op
  go_big_quiet_on
  refine seg_plain rfl rfl rfl rfl rfl ?_
  intro K' hK'
  go_big_quiet_op
  go_big_quiet_on
  refine seg_plain rfl rfl rfl rfl rfl ?_
  intro K' hK'
  go_big_quiet_op
  go_big_quiet_on
  refine seg_plain rfl rfl rfl rfl rfl ?_
  intro K' hK'
  go_big_quiet_op
  go_big_quiet_on
  refine seg_plain rfl rfl rfl rfl rfl ?_
  intro K' hK'
  go_big_quiet_op
  go_big_quiet_on
  refine seg_plain rfl rfl rfl rfl rfl ?_
  intro K' hK'
  go_big_quiet_op
  go_big_quiet_on
  refine seg_plain rfl rfl rfl rfl rfl ?_
  intro K' hK'
  go_big_quiet_op
  go_big_quiet_on
  refine seg_call rfl rfl rfl rfl (fun w => by go_simp) (fun w hu hd => (HB.out _ _ (HU2.out.trans_ext hu) (bN.out.ext hu)).mono fun e w' h => ⟨h.1, h.2⟩) ?_
  simp only [Act.put, List.setIfInBounds_toArray, List.set_cons_zero, List.set_cons_succ]
  refine seg_plain rfl rfl rfl rfl rfl ?_
  intro K' hK'
  go_big_quiet_op
  go_big_quiet_on
  refine seg_plain rfl rfl rfl rfl rfl ?_
  intro K' hK'
  go_big_quiet_op
  go_big_quiet_on
  refine seg_plain rfl rfl rfl rfl rfl ?_
  intro K' hK'
  go_big_quiet_op
  go_big_quiet_on
  intro w9 hg
  have HU3 := Lib.hid (HU2.out.trans_ext hg.up)
  clear hg
  go_wp2_with fail
  go_ret
  exact ⟨congrArg (fun z => Ending.returned (.string z)) (show ByteArray.mk [40].toArray ++ ByteArray.mk sa.toArray ++ ByteArray.mk [41, 32].toArray ++ ByteArray.mk W.toArray ++ ByteArray.mk [32, 40].toArray ++ ByteArray.mk sb.toArray ++ ByteArray.mk [41].toArray = ⟨([40] ++ sa ++ [41, 32] ++ W ++ [32, 40] ++ sb ++ [41]).toArray⟩ by simp only [ByteArray.mk_append_mk]), HU3.out⟩


set_option maxRecDepth 100000 in
set_option maxHeartbeats 6400000 in
theorem full_quant (w : World) (k : Nat) (n2 n3 l2 l3 : Nat) (so nn mm : Int) (W : List UInt8) (hW : wordsF[k]? = some W) (hk : 16 ≤ k ∧ k < 18) (g og gn ogn : Nat) (P : Nat → Prop) (a : Nd) (x sa : List UInt8) (hl2 : 1 ≤ l2) (hn2 : 1 ≤ n2) (hy : w.cell? ⟨gn, ogn, none⟩ = some (sV x)) (hlx : x.length ≤ 1000000000000) (hly : sa.length ≤ 1000000000000) (hx : NdsV w P g og [a]) (ha : Says w P a sa) :
    Calls Tryd.prog 49 #[.agg #[.int .i64 k, .slice (some ⟨gn, ogn, none⟩) n2 n3, .int .i64 so, .int .i64 nn, .int .i64 mm, .slice (some ⟨g, og, none⟩) l2 l3]] w fun e w' => e = .returned (.string ⟨(W ++ [32] ++ sortW so ++ [32] ++ x ++ [58, 32] ++ sa).toArray⟩) ∧ Upto [] w w' := by
  have hu2 : Upto [] w ((w.alloc (.cells #[.int .i64 k, .slice (some ⟨gn, ogn, none⟩) n2 n3, .int .i64 so, .int .i64 nn, .int .i64 mm, .slice (some ⟨g, og, none⟩) l2 l3] 54)).alloc (.cells #[.string ⟨#[116, 114, 117, 101]⟩, .string ⟨#[102, 97, 108, 115, 101]⟩, .string ⟨#[61]⟩, .string ⟨#[105, 110]⟩, .string ⟨#[115, 117, 98]⟩, .string ⟨#[97, 100, 106]⟩, .string ⟨#[111, 110]⟩, .string ⟨#[]⟩, .string ⟨#[]⟩, .string ⟨#[]⟩, .string ⟨#[]⟩, .string ⟨#[110, 111, 116]⟩, .string ⟨#[97, 110, 100]⟩, .string ⟨#[111, 114]⟩, .string ⟨#[105, 109, 112, 108, 105, 101, 115]⟩, .string ⟨#[105, 102, 102]⟩, .string ⟨#[115, 111, 109, 101]⟩, .string ⟨#[101, 118, 101, 114, 121]⟩] 9)) := ((Upto.refl [] w).alloc _).alloc _
  have HU2 := Lib.hid hu2
  have hb1 := alloc_old (new_at w (.cells #[.int .i64 k, .slice (some ⟨gn, ogn, none⟩) n2 n3, .int .i64 so, .int .i64 nn, .int .i64 mm, .slice (some ⟨g, og, none⟩) l2 l3] 54)) (.cells #[.string ⟨#[116, 114, 117, 101]⟩, .string ⟨#[102, 97, 108, 115, 101]⟩, .string ⟨#[61]⟩, .string ⟨#[105, 110]⟩, .string ⟨#[115, 117, 98]⟩, .string ⟨#[97, 100, 106]⟩, .string ⟨#[111, 110]⟩, .string ⟨#[]⟩, .string ⟨#[]⟩, .string ⟨#[]⟩, .string ⟨#[]⟩, .string ⟨#[110, 111, 116]⟩, .string ⟨#[97, 110, 100]⟩, .string ⟨#[111, 114]⟩, .string ⟨#[105, 109, 112, 108, 105, 101, 115]⟩, .string ⟨#[105, 102, 102]⟩, .string ⟨#[115, 111, 109, 101]⟩, .string ⟨#[101, 118, 101, 114, 121]⟩] 9)
  have hb2 := new_at1 w (.cells #[.int .i64 k, .slice (some ⟨gn, ogn, none⟩) n2 n3, .int .i64 so, .int .i64 nn, .int .i64 mm, .slice (some ⟨g, og, none⟩) l2 l3] 54) (.cells #[.string ⟨#[116, 114, 117, 101]⟩, .string ⟨#[102, 97, 108, 115, 101]⟩, .string ⟨#[61]⟩, .string ⟨#[105, 110]⟩, .string ⟨#[115, 117, 98]⟩, .string ⟨#[97, 100, 106]⟩, .string ⟨#[111, 110]⟩, .string ⟨#[]⟩, .string ⟨#[]⟩, .string ⟨#[]⟩, .string ⟨#[]⟩, .string ⟨#[110, 111, 116]⟩, .string ⟨#[97, 110, 100]⟩, .string ⟨#[111, 114]⟩, .string ⟨#[105, 109, 112, 108, 105, 101, 115]⟩, .string ⟨#[105, 102, 102]⟩, .string ⟨#[115, 111, 109, 101]⟩, .string ⟨#[101, 118, 101, 114, 121]⟩] 9)
  have hc : ((w.alloc (.cells #[.int .i64 k, .slice (some ⟨gn, ogn, none⟩) n2 n3, .int .i64 so, .int .i64 nn, .int .i64 mm, .slice (some ⟨g, og, none⟩) l2 l3] 54)).alloc (.cells #[.string ⟨#[116, 114, 117, 101]⟩, .string ⟨#[102, 97, 108, 115, 101]⟩, .string ⟨#[61]⟩, .string ⟨#[105, 110]⟩, .string ⟨#[115, 117, 98]⟩, .string ⟨#[97, 100, 106]⟩, .string ⟨#[111, 110]⟩, .string ⟨#[]⟩, .string ⟨#[]⟩, .string ⟨#[]⟩, .string ⟨#[]⟩, .string ⟨#[110, 111, 116]⟩, .string ⟨#[97, 110, 100]⟩, .string ⟨#[111, 114]⟩, .string ⟨#[105, 109, 112, 108, 105, 101, 115]⟩, .string ⟨#[105, 102, 102]⟩, .string ⟨#[115, 111, 109, 101]⟩, .string ⟨#[101, 118, 101, 114, 121]⟩] 9)).cell? ⟨w.heap.size + 1, k, none⟩ = some (.string ⟨W.toArray⟩) := by
    rw [cell_of hb2]
    have hk : k = 2 ∨ k = 3 ∨ k = 4 ∨ k = 5 ∨ k = 6 ∨ k = 7 ∨ k = 8 ∨ k = 9 ∨ k = 10 ∨ k = 11 ∨ k = 12 ∨ k = 13 ∨ k = 14 ∨ k = 15 ∨ k = 16 ∨ k = 17 := by omega
    rcases hk with rfl | rfl | rfl | rfl | rfl | rfl | rfl | rfl | rfl | rfl | rfl | rfl | rfl | rfl | rfl | rfl <;> (cases hW; rfl)
  have q0 : ¬ ((k : Int) < 2) := by omega
  have q1 : ¬ ((k : Int) < 7) := by omega
  have q2 : ((k : Int) == 7) = false := by simp; omega
  have q3 : ((k : Int) == 8) = false := by simp; omega
  have q4 : ((k : Int) == 9) = false := by simp; omega
  have q5 : ((k : Int) == 10) = false := by simp; omega
  have q6 : ((k : Int) == 11) = false := by simp; omega
  have q7 : ¬ ((k : Int) < 16) := by omega
  have q8 : (0 : Int) < l2 := by omega
  have q9 : (0 : Int) < n2 := by omega
  have q10 : (k : Int) < 18 := by omega
  have q11 : (0 : Int) ≤ k := by omega
  have xa0 := cell_of hb1 0
  have xa1 := cell_of hb1 1
  have xa2 := cell_of hb1 2
  have xa3 := cell_of hb1 3
  have xa4 := cell_of hb1 4
  have xa5 := cell_of hb1 5
  simp only [List.getElem?_toArray, List.getElem?_cons_zero, List.getElem?_cons_succ] at xa0 xa1 xa2 xa3 xa4 xa5
  have ya0 := free_of hb1 0
  have ya1 := free_of hb1 1
  have ya2 := free_of hb1 2
  have ya3 := free_of hb1 3
  have ya4 := free_of hb1 4
  have ya5 := free_of hb1 5
  have e0 : ∀ u : Ext ((w.alloc (.cells #[.int .i64 k, .slice (some ⟨gn, ogn, none⟩) n2 n3, .int .i64 so, .int .i64 nn, .int .i64 mm, .slice (some ⟨g, og, none⟩) l2 l3] 54)).alloc (.cells #[.string ⟨#[116, 114, 117, 101]⟩, .string ⟨#[102, 97, 108, 115, 101]⟩, .string ⟨#[61]⟩, .string ⟨#[105, 110]⟩, .string ⟨#[115, 117, 98]⟩, .string ⟨#[97, 100, 106]⟩, .string ⟨#[111, 110]⟩, .string ⟨#[]⟩, .string ⟨#[]⟩, .string ⟨#[]⟩, .string ⟨#[]⟩, .string ⟨#[110, 111, 116]⟩, .string ⟨#[97, 110, 100]⟩, .string ⟨#[111, 114]⟩, .string ⟨#[105, 109, 112, 108, 105, 101, 115]⟩, .string ⟨#[105, 102, 102]⟩, .string ⟨#[115, 111, 109, 101]⟩, .string ⟨#[101, 118, 101, 114, 121]⟩] 9)), u.w.cell? ⟨w.heap.size, 0, none⟩ = some (.int .i64 k) := fun u => u.cell (cell_of hb1 0)
  have e1 : ∀ u : Ext ((w.alloc (.cells #[.int .i64 k, .slice (some ⟨gn, ogn, none⟩) n2 n3, .int .i64 so, .int .i64 nn, .int .i64 mm, .slice (some ⟨g, og, none⟩) l2 l3] 54)).alloc (.cells #[.string ⟨#[116, 114, 117, 101]⟩, .string ⟨#[102, 97, 108, 115, 101]⟩, .string ⟨#[61]⟩, .string ⟨#[105, 110]⟩, .string ⟨#[115, 117, 98]⟩, .string ⟨#[97, 100, 106]⟩, .string ⟨#[111, 110]⟩, .string ⟨#[]⟩, .string ⟨#[]⟩, .string ⟨#[]⟩, .string ⟨#[]⟩, .string ⟨#[110, 111, 116]⟩, .string ⟨#[97, 110, 100]⟩, .string ⟨#[111, 114]⟩, .string ⟨#[105, 109, 112, 108, 105, 101, 115]⟩, .string ⟨#[105, 102, 102]⟩, .string ⟨#[115, 111, 109, 101]⟩, .string ⟨#[101, 118, 101, 114, 121]⟩] 9)), u.w.cell? ⟨w.heap.size, 1, none⟩ = some (.slice (some ⟨gn, ogn, none⟩) n2 n3) := fun u => u.cell (cell_of hb1 1)
  have e2 : ∀ u : Ext ((w.alloc (.cells #[.int .i64 k, .slice (some ⟨gn, ogn, none⟩) n2 n3, .int .i64 so, .int .i64 nn, .int .i64 mm, .slice (some ⟨g, og, none⟩) l2 l3] 54)).alloc (.cells #[.string ⟨#[116, 114, 117, 101]⟩, .string ⟨#[102, 97, 108, 115, 101]⟩, .string ⟨#[61]⟩, .string ⟨#[105, 110]⟩, .string ⟨#[115, 117, 98]⟩, .string ⟨#[97, 100, 106]⟩, .string ⟨#[111, 110]⟩, .string ⟨#[]⟩, .string ⟨#[]⟩, .string ⟨#[]⟩, .string ⟨#[]⟩, .string ⟨#[110, 111, 116]⟩, .string ⟨#[97, 110, 100]⟩, .string ⟨#[111, 114]⟩, .string ⟨#[105, 109, 112, 108, 105, 101, 115]⟩, .string ⟨#[105, 102, 102]⟩, .string ⟨#[115, 111, 109, 101]⟩, .string ⟨#[101, 118, 101, 114, 121]⟩] 9)), u.w.cell? ⟨w.heap.size, 2, none⟩ = some (.int .i64 so) := fun u => u.cell (cell_of hb1 2)
  have e5 : ∀ u : Ext ((w.alloc (.cells #[.int .i64 k, .slice (some ⟨gn, ogn, none⟩) n2 n3, .int .i64 so, .int .i64 nn, .int .i64 mm, .slice (some ⟨g, og, none⟩) l2 l3] 54)).alloc (.cells #[.string ⟨#[116, 114, 117, 101]⟩, .string ⟨#[102, 97, 108, 115, 101]⟩, .string ⟨#[61]⟩, .string ⟨#[105, 110]⟩, .string ⟨#[115, 117, 98]⟩, .string ⟨#[97, 100, 106]⟩, .string ⟨#[111, 110]⟩, .string ⟨#[]⟩, .string ⟨#[]⟩, .string ⟨#[]⟩, .string ⟨#[]⟩, .string ⟨#[110, 111, 116]⟩, .string ⟨#[97, 110, 100]⟩, .string ⟨#[111, 114]⟩, .string ⟨#[105, 109, 112, 108, 105, 101, 115]⟩, .string ⟨#[105, 102, 102]⟩, .string ⟨#[115, 111, 109, 101]⟩, .string ⟨#[101, 118, 101, 114, 121]⟩] 9)), u.w.cell? ⟨w.heap.size, 5, none⟩ = some (.slice (some ⟨g, og, none⟩) l2 l3) := fun u => u.cell (cell_of hb1 5)
  have ew : ∀ u : Ext ((w.alloc (.cells #[.int .i64 k, .slice (some ⟨gn, ogn, none⟩) n2 n3, .int .i64 so, .int .i64 nn, .int .i64 mm, .slice (some ⟨g, og, none⟩) l2 l3] 54)).alloc (.cells #[.string ⟨#[116, 114, 117, 101]⟩, .string ⟨#[102, 97, 108, 115, 101]⟩, .string ⟨#[61]⟩, .string ⟨#[105, 110]⟩, .string ⟨#[115, 117, 98]⟩, .string ⟨#[97, 100, 106]⟩, .string ⟨#[111, 110]⟩, .string ⟨#[]⟩, .string ⟨#[]⟩, .string ⟨#[]⟩, .string ⟨#[]⟩, .string ⟨#[110, 111, 116]⟩, .string ⟨#[97, 110, 100]⟩, .string ⟨#[111, 114]⟩, .string ⟨#[105, 109, 112, 108, 105, 101, 115]⟩, .string ⟨#[105, 102, 102]⟩, .string ⟨#[115, 111, 109, 101]⟩, .string ⟨#[101, 118, 101, 114, 121]⟩] 9)), u.w.cell? ⟨w.heap.size + 1, k, none⟩ = some (.string ⟨W.toArray⟩) := fun u => u.cell hc
  have ex : ∀ u : Ext ((w.alloc (.cells #[.int .i64 k, .slice (some ⟨gn, ogn, none⟩) n2 n3, .int .i64 so, .int .i64 nn, .int .i64 mm, .slice (some ⟨g, og, none⟩) l2 l3] 54)).alloc (.cells #[.string ⟨#[116, 114, 117, 101]⟩, .string ⟨#[102, 97, 108, 115, 101]⟩, .string ⟨#[61]⟩, .string ⟨#[105, 110]⟩, .string ⟨#[115, 117, 98]⟩, .string ⟨#[97, 100, 106]⟩, .string ⟨#[111, 110]⟩, .string ⟨#[]⟩, .string ⟨#[]⟩, .string ⟨#[]⟩, .string ⟨#[]⟩, .string ⟨#[110, 111, 116]⟩, .string ⟨#[97, 110, 100]⟩, .string ⟨#[111, 114]⟩, .string ⟨#[105, 109, 112, 108, 105, 101, 115]⟩, .string ⟨#[105, 102, 102]⟩, .string ⟨#[115, 111, 109, 101]⟩, .string ⟨#[101, 118, 101, 114, 121]⟩] 9)), u.w.cell? ⟨gn, ogn, none⟩ = some (.string ⟨x.toArray⟩) := fun u => u.cell ((hu2.cell (p := ⟨gn, ogn, none⟩) (World.block_lt_of_cell? w _ hy) (by simp)).trans hy)
  unfold NdsV NdsV at hx
  obtain ⟨⟨_, _, _, _, _, _, ac0, ac1, ac2, ac3, ac4, ac5, an⟩, -⟩ := hx
  obtain ⟨ao, an1, an2, an3, aso, am, aq, al1, al2, al3, ae⟩ := an.six
  simp only [Value.agg.injEq, Array.mk.injEq, List.cons.injEq, and_true] at ae
  obtain ⟨rfl, rfl, rfl, rfl, rfl, rfl⟩ := ae
  have af0 : ∀ u : Ext ((w.alloc (.cells #[.int .i64 k, .slice (some ⟨gn, ogn, none⟩) n2 n3, .int .i64 so, .int .i64 nn, .int .i64 mm, .slice (some ⟨g, og, none⟩) l2 l3] 54)).alloc (.cells #[.string ⟨#[116, 114, 117, 101]⟩, .string ⟨#[102, 97, 108, 115, 101]⟩, .string ⟨#[61]⟩, .string ⟨#[105, 110]⟩, .string ⟨#[115, 117, 98]⟩, .string ⟨#[97, 100, 106]⟩, .string ⟨#[111, 110]⟩, .string ⟨#[]⟩, .string ⟨#[]⟩, .string ⟨#[]⟩, .string ⟨#[]⟩, .string ⟨#[110, 111, 116]⟩, .string ⟨#[97, 110, 100]⟩, .string ⟨#[111, 114]⟩, .string ⟨#[105, 109, 112, 108, 105, 101, 115]⟩, .string ⟨#[105, 102, 102]⟩, .string ⟨#[115, 111, 109, 101]⟩, .string ⟨#[101, 118, 101, 114, 121]⟩] 9)), u.w.cell? ⟨g, og, none⟩ = some _ := fun u => u.cell ((hu2.cell (p := ⟨g, og, none⟩) (World.block_lt_of_cell? w _ ac0) (by simp)).trans ac0)
  have af1 : ∀ u : Ext ((w.alloc (.cells #[.int .i64 k, .slice (some ⟨gn, ogn, none⟩) n2 n3, .int .i64 so, .int .i64 nn, .int .i64 mm, .slice (some ⟨g, og, none⟩) l2 l3] 54)).alloc (.cells #[.string ⟨#[116, 114, 117, 101]⟩, .string ⟨#[102, 97, 108, 115, 101]⟩, .string ⟨#[61]⟩, .string ⟨#[105, 110]⟩, .string ⟨#[115, 117, 98]⟩, .string ⟨#[97, 100, 106]⟩, .string ⟨#[111, 110]⟩, .string ⟨#[]⟩, .string ⟨#[]⟩, .string ⟨#[]⟩, .string ⟨#[]⟩, .string ⟨#[110, 111, 116]⟩, .string ⟨#[97, 110, 100]⟩, .string ⟨#[111, 114]⟩, .string ⟨#[105, 109, 112, 108, 105, 101, 115]⟩, .string ⟨#[105, 102, 102]⟩, .string ⟨#[115, 111, 109, 101]⟩, .string ⟨#[101, 118, 101, 114, 121]⟩] 9)), u.w.cell? ⟨g, og + 1, none⟩ = some _ := fun u => u.cell ((hu2.cell (p := ⟨g, og + 1, none⟩) (World.block_lt_of_cell? w _ ac1) (by simp)).trans ac1)
  have af2 : ∀ u : Ext ((w.alloc (.cells #[.int .i64 k, .slice (some ⟨gn, ogn, none⟩) n2 n3, .int .i64 so, .int .i64 nn, .int .i64 mm, .slice (some ⟨g, og, none⟩) l2 l3] 54)).alloc (.cells #[.string ⟨#[116, 114, 117, 101]⟩, .string ⟨#[102, 97, 108, 115, 101]⟩, .string ⟨#[61]⟩, .string ⟨#[105, 110]⟩, .string ⟨#[115, 117, 98]⟩, .string ⟨#[97, 100, 106]⟩, .string ⟨#[111, 110]⟩, .string ⟨#[]⟩, .string ⟨#[]⟩, .string ⟨#[]⟩, .string ⟨#[]⟩, .string ⟨#[110, 111, 116]⟩, .string ⟨#[97, 110, 100]⟩, .string ⟨#[111, 114]⟩, .string ⟨#[105, 109, 112, 108, 105, 101, 115]⟩, .string ⟨#[105, 102, 102]⟩, .string ⟨#[115, 111, 109, 101]⟩, .string ⟨#[101, 118, 101, 114, 121]⟩] 9)), u.w.cell? ⟨g, og + 2, none⟩ = some _ := fun u => u.cell ((hu2.cell (p := ⟨g, og + 2, none⟩) (World.block_lt_of_cell? w _ ac2) (by simp)).trans ac2)
  have af3 : ∀ u : Ext ((w.alloc (.cells #[.int .i64 k, .slice (some ⟨gn, ogn, none⟩) n2 n3, .int .i64 so, .int .i64 nn, .int .i64 mm, .slice (some ⟨g, og, none⟩) l2 l3] 54)).alloc (.cells #[.string ⟨#[116, 114, 117, 101]⟩, .string ⟨#[102, 97, 108, 115, 101]⟩, .string ⟨#[61]⟩, .string ⟨#[105, 110]⟩, .string ⟨#[115, 117, 98]⟩, .string ⟨#[97, 100, 106]⟩, .string ⟨#[111, 110]⟩, .string ⟨#[]⟩, .string ⟨#[]⟩, .string ⟨#[]⟩, .string ⟨#[]⟩, .string ⟨#[110, 111, 116]⟩, .string ⟨#[97, 110, 100]⟩, .string ⟨#[111, 114]⟩, .string ⟨#[105, 109, 112, 108, 105, 101, 115]⟩, .string ⟨#[105, 102, 102]⟩, .string ⟨#[115, 111, 109, 101]⟩, .string ⟨#[101, 118, 101, 114, 121]⟩] 9)), u.w.cell? ⟨g, og + 3, none⟩ = some _ := fun u => u.cell ((hu2.cell (p := ⟨g, og + 3, none⟩) (World.block_lt_of_cell? w _ ac3) (by simp)).trans ac3)
  have af4 : ∀ u : Ext ((w.alloc (.cells #[.int .i64 k, .slice (some ⟨gn, ogn, none⟩) n2 n3, .int .i64 so, .int .i64 nn, .int .i64 mm, .slice (some ⟨g, og, none⟩) l2 l3] 54)).alloc (.cells #[.string ⟨#[116, 114, 117, 101]⟩, .string ⟨#[102, 97, 108, 115, 101]⟩, .string ⟨#[61]⟩, .string ⟨#[105, 110]⟩, .string ⟨#[115, 117, 98]⟩, .string ⟨#[97, 100, 106]⟩, .string ⟨#[111, 110]⟩, .string ⟨#[]⟩, .string ⟨#[]⟩, .string ⟨#[]⟩, .string ⟨#[]⟩, .string ⟨#[110, 111, 116]⟩, .string ⟨#[97, 110, 100]⟩, .string ⟨#[111, 114]⟩, .string ⟨#[105, 109, 112, 108, 105, 101, 115]⟩, .string ⟨#[105, 102, 102]⟩, .string ⟨#[115, 111, 109, 101]⟩, .string ⟨#[101, 118, 101, 114, 121]⟩] 9)), u.w.cell? ⟨g, og + 4, none⟩ = some _ := fun u => u.cell ((hu2.cell (p := ⟨g, og + 4, none⟩) (World.block_lt_of_cell? w _ ac4) (by simp)).trans ac4)
  have af5 : ∀ u : Ext ((w.alloc (.cells #[.int .i64 k, .slice (some ⟨gn, ogn, none⟩) n2 n3, .int .i64 so, .int .i64 nn, .int .i64 mm, .slice (some ⟨g, og, none⟩) l2 l3] 54)).alloc (.cells #[.string ⟨#[116, 114, 117, 101]⟩, .string ⟨#[102, 97, 108, 115, 101]⟩, .string ⟨#[61]⟩, .string ⟨#[105, 110]⟩, .string ⟨#[115, 117, 98]⟩, .string ⟨#[97, 100, 106]⟩, .string ⟨#[111, 110]⟩, .string ⟨#[]⟩, .string ⟨#[]⟩, .string ⟨#[]⟩, .string ⟨#[]⟩, .string ⟨#[110, 111, 116]⟩, .string ⟨#[97, 110, 100]⟩, .string ⟨#[111, 114]⟩, .string ⟨#[105, 109, 112, 108, 105, 101, 115]⟩, .string ⟨#[105, 102, 102]⟩, .string ⟨#[115, 111, 109, 101]⟩, .string ⟨#[101, 118, 101, 114, 121]⟩] 9)), u.w.cell? ⟨g, og + 5, none⟩ = some _ := fun u => u.cell ((hu2.cell (p := ⟨g, og + 5, none⟩) (World.block_lt_of_cell? w _ ac5) (by simp)).trans ac5)
  have aN := Lib.hid (an.ext hu2)
  have HA := Lib.hid ha
  have lW : W.length ≤ 10 := by
    have hk : k = 2 ∨ k = 3 ∨ k = 4 ∨ k = 5 ∨ k = 6 ∨ k = 7 ∨ k = 8 ∨ k = 9 ∨ k = 10 ∨ k = 11 ∨ k = 12 ∨ k = 13 ∨ k = 14 ∨ k = 15 ∨ k = 16 ∨ k = 17 := by omega
    rcases hk with rfl | rfl | rfl | rfl | rfl | rfl | rfl | rfl | rfl | rfl | rfl | rfl | rfl | rfl | rfl | rfl <;> (cases hW; simp)
  have lS : (sortW so).length ≤ 10 := by unfold sortW; split; simp; split; simp; split; simp; split <;> simp
  have sm0 : W.length + 1 ≤ 9223372036854775807 := by omega
  have sm1 : W.length + 1 + (sortW so).length ≤ 9223372036854775807 := by omega
  have sm2 : W.length + 1 + (sortW so).length + 1 ≤ 9223372036854775807 := by omega
  have sm3 : W.length + 1 + (sortW so).length + 1 + x.length ≤ 9223372036854775807 := by omega
  have sm4 : W.length + 1 + (sortW so).length + 1 + x.length + 2 ≤ 9223372036854775807 := by omega
  have sm5 : W.length + 1 + (sortW so).length + 1 + x.length + 2 + sa.length ≤ 9223372036854775807 := by omega
  clear hu2 hb1 hb2 hc hW ha an ac0 ac1 ac2 ac3 ac4 ac5 hy
  go_enter Tryd.func49, Tryd.ntmps49
  go_wp2_with fail
  refine wp_region_seg_all [8, 21] [] [0, 1, 2, 3, 4, 5, 6, 7, 8, 9, 10, 11, 12, 13, 14, 15, 16, 17, 18, 19, 20, 21, 22, 23] (by kernel_rfl) (by kernel_rfl) ?_
  refine seg_plain rfl rfl rfl rfl rfl ?_
  intro K' hK'
  go_big_quiet_op
  go_big_quiet_on
  refine seg_plain rfl rfl rfl rfl rfl ?_
  intro K' hK'
  go_big_quiet_op
  go_big_quiet_on
  refine seg_plain rfl rfl rfl rfl rfl ?_
  intro K' hK'
  go_big_quiet_op
  go_big_quiet_on
  refine seg_plain rfl rfl rfl rfl rfl ?_
  intro K' hK'
  go_big_quiet_op
  go_big_quiet_on
  refine seg_plain rfl rfl rfl rfl rfl ?_
  intro K' hK'
  go_big_quiet_op
  go_big_quiet_on
  refine seg_plain rfl rfl rfl rfl rfl ?_
  intro K' hK'
  go_big_quiet_op
  go_big_quiet_on
  refine seg_plain rfl rfl rfl rfl rfl ?_
  intro K' hK'
  go_big_quiet_op
  go_big_quiet_on
  refine seg_plain rfl rfl rfl rfl rfl ?_
  intro K' hK'
  go_big_quiet_op
  go_big_quiet_on
  refine seg_call rfl rfl rfl rfl (fun w => by go_simp) (fun w hu hd => (sorted_calls so w).mono fun e w' h => ⟨h.1, h.2⟩) ?_
  simp only [Act.put, List.setIfInBounds_toArray, List.set_cons_zero, List.set_cons_succ]
  refine seg_plain rfl rfl rfl rfl rfl ?_
  intro K' hK'
  go_big_quiet_op
  go_big_quiet_on
  refine seg_plain rfl rfl rfl rfl rfl ?_
  intro K' hK'
  go_big_quiet_op
  go_big_quiet_on
  refine seg_plain rfl rfl rfl rfl rfl ?_
  intro K' hK'
  go_big_quiet_op
  go_big_quiet_on
  refine seg_plain rfl rfl rfl rfl rfl ?_
  intro K' hK'
  go_big_quiet_op
  go_big_quiet_on
  refine seg_plain rfl rfl rfl rfl rfl ?_
  intro K' hK'
  go_big_quiet_op
  go_big_quiet_on
  refine seg_plain rfl rfl rfl rfl rfl ?_
  intro K' hK'
  go_big_quiet_op
  go_big_quiet_on
  refine seg_plain rfl rfl rfl rfl rfl ?_
  intro K' hK'
  go_big_quiet_op
  go_big_quiet_on
  refine seg_plain rfl rfl rfl rfl rfl ?_
  intro K' hK'
  go_big_quiet_op
  go_big_quiet_on
  refine seg_plain rfl rfl rfl rfl rfl ?_
  intro K' hK'
  go_big_quiet_op
  go_big_quiet_on
  refine seg_plain rfl rfl rfl rfl rfl ?_
  intro K' hK'
  go_big_quiet_op
  go_big_quiet_on
  refine seg_plain rfl rfl rfl rfl rfl ?_
  intro K' hK'
  go_big_quiet_op
  go_big_quiet_on
  refine seg_plain rfl rfl rfl rfl rfl ?_
  intro K' hK'
  go_big_quiet_op
  go_big_quiet_on
  refine seg_call rfl rfl rfl rfl (fun w => by go_simp) (fun w hu hd => (HA.out _ _ (HU2.out.trans_ext hu) (aN.out.ext hu)).mono fun e w' h => ⟨h.1, h.2⟩) ?_
  simp only [Act.put, List.setIfInBounds_toArray, List.set_cons_zero, List.set_cons_succ]
  refine seg_plain rfl rfl rfl rfl rfl ?_
  intro K' hK'
  go_big_quiet_op
  go_big_quiet_on
  refine seg_plain rfl rfl rfl rfl rfl ?_
  intro K' hK'
  go_big_quiet_op
  go_big_quiet_on
  intro w9 hg
  have HU3 := Lib.hid (HU2.out.trans_ext hg.up)
  clear hg
  go_wp2_with fail
  go_ret
  exact ⟨congrArg (fun z => Ending.returned (.string z)) (show ByteArray.mk W.toArray ++ ByteArray.mk [32].toArray ++ ByteArray.mk (sortW so).toArray ++ ByteArray.mk [32].toArray ++ ByteArray.mk x.toArray ++ ByteArray.mk [58, 32].toArray ++ ByteArray.mk sa.toArray = ⟨(W ++ [32] ++ (sortW so) ++ [32] ++ x ++ [58, 32] ++ sa).toArray⟩ by simp only [ByteArray.mk_append_mk]), HU3.out⟩

end Go.Proofs.YtkhbpebpljdifaaDoor


namespace Go.Proofs.YtkhbpebpljdifaaDoor
open Go.RowKit Go.PL Go.Maps

theorem word_at (k : Nat) (h : k < 18) : wordsF[k]? = some (wordsF.getD k []) := by
  have h' : k < wordsF.length := h
  rw [List.getD_eq_getElem?_getD, List.getElem?_eq_getElem h']
  rfl
theorem nds_two {w : World} {P : Nat → Prop} {g o : Nat} {a b : Nd} {r : List Nd} (h : NdsV w P g o (a :: b :: r)) : NdsV w P g o [a, b] := by
  unfold NdsV NdsV at h
  unfold NdsV NdsV NdsV
  exact ⟨h.1, h.2.1, trivial⟩
theorem nds_one {w : World} {P : Nat → Prop} {g o : Nat} {a : Nd} {r : List Nd} (h : NdsV w P g o (a :: r)) : NdsV w P g o [a] := by
  unfold NdsV at h
  unfold NdsV NdsV
  exact ⟨h.1, trivial⟩
theorem full_says : ∀ (n : Nat) (nd : Nd), sizeF nd ≤ n → plainF nd → (fullF nd).length ≤ 1000000000000 → ∀ (w : World) (P : Nat → Prop), Says w P nd (fullF nd)
  | 0, nd, hn, _, _, _, _ => by have := sizeF_pos nd; omega
  | n + 1, .mk op names so nn mm l, hn, hp, hl, w, P => by
    intro v w1 hu h
    unfold NdV at h
    obtain ⟨vn, vl, rfl, hs, hll⟩ := h
    obtain ⟨na, nc, rfl, hg⟩ := hs.get
    unfold plainF at hp
    simp only [fullF] at hl ⊢
    simp only [sizeF] at hn
    rcases hp with ⟨h1, h2, h3⟩ | ⟨h1, h2, h3, h4⟩ | ⟨h1, h2, h3, h4, h5⟩
    · obtain ⟨k, rfl⟩ := Int.eq_ofNat_of_zero_le (show 0 ≤ op by omega)
      match names, h3 with
      | x :: y :: r, h3 =>
        obtain ⟨g, o, rfl, c0⟩ := hg 0 (sV x) rfl
        obtain ⟨g', o', e, c1⟩ := hg 1 (sV y) rfl
        simp at e
        obtain ⟨rfl, rfl⟩ := e
        obtain ⟨a2, n2, c2, rfl⟩ : ∃ a n c, vl = .slice a n c := by
          rcases hll with ⟨-, a, c, rfl⟩ | ⟨g, o, c, rfl, -⟩
          · exact ⟨a, 0, c, rfl⟩
          · exact ⟨_, _, c, rfl⟩
        rw [if_pos h2] at hl ⊢
        simp only [List.length_append, List.getD_cons_zero, List.getD_cons_succ] at hl
        exact full_two w1 k a2 _ nc n2 c2 so nn mm _ (word_at k (by omega)) ⟨by omega, by omega⟩ g o x y h3 (by omega) (by omega) c0 c1
    · obtain ⟨k, rfl⟩ := Int.eq_ofNat_of_zero_le (show 0 ≤ op by omega)
      match l, h3 with
      | a :: b :: r, h3 =>
        rcases hll with ⟨e, -⟩ | ⟨g, o, c, rfl, -, hds⟩
        · cases e
        rw [if_neg (by omega), if_pos h2] at hl ⊢
        simp only [List.length_append, fullsF, List.getD_cons_zero, List.getD_cons_succ] at hl
        simp only [sizesF] at hn
        unfold plainsF plainsF at h4
        exact full_bin w1 k na _ nc _ c so nn mm _ (word_at k (by omega)) ⟨by omega, by omega⟩ g o P a b (fullF a) (fullF b) h3 (nds_two hds) (by omega) (by omega)
          (full_says n a (by omega) h4.1 (by omega) w1 P) (full_says n b (by omega) h4.2.1 (by omega) w1 P)
    · obtain ⟨k, rfl⟩ := Int.eq_ofNat_of_zero_le (show 0 ≤ op by omega)
      match l, h4, names, h3 with
      | a :: r, h4, x :: r', h3 =>
        rcases hll with ⟨e, -⟩ | ⟨g, o, c, rfl, -, hds⟩
        · cases e
        obtain ⟨gn, og, rfl, c0⟩ := hg 0 (sV x) rfl
        rw [if_neg (by omega), if_neg (by omega)] at hl ⊢
        simp only [List.length_append, fullsF, List.getD_cons_zero] at hl
        simp only [sizesF] at hn
        unfold plainsF at h5
        exact full_quant w1 k _ nc _ c so nn mm _ (word_at k (by omega)) ⟨by omega, by omega⟩ g o gn og P a x (fullF a) h4 h3 c0 (by omega) (by omega) (nds_one hds)
          (full_says n a (by omega) h5.1 (by omega) w1 P)
theorem full_calls (w : World) (P : Nat → Prop) (nd : Nd) (v : Value) (hp : plainF nd) (hl : (fullF nd).length ≤ 1000000000000) (h : NdV w P nd v) : Calls Tryd.prog 49 #[v] w fun e w' => e = .returned (.string ⟨(fullF nd).toArray⟩) ∧ Upto [] w w' :=
  full_says _ nd (Nat.le_refl _) hp hl w P v w (Upto.refl _ _) h
end Go.Proofs.YtkhbpebpljdifaaDoor


namespace Go.Proofs.YtkhbpebpljdifaaDoor
open Go.RowKit Go.PL Go.Maps

mutual
/-- whether two formulas are the same -/
def sameF : Nd → Nd → Bool
  | .mk op xs so n m l, .mk op' xs' so' n' m' l' => decide (op = op') && decide (so = so') && decide (n = n') && decide (m = m') && decide (xs = xs') && samesF l l'
def samesF : List Nd → List Nd → Bool
  | [], [] => true
  | x :: r, y :: t => sameF x y && samesF r t
  | [], _ :: _ => false
  | _ :: _, [] => false
end
mutual
theorem sameF_eq : ∀ (a b : Nd), sameF a b = true ↔ a = b
  | .mk op xs so n m l, .mk op' xs' so' n' m' l' => by
    unfold sameF
    simp only [Bool.and_eq_true, decide_eq_true_eq, samesF_eq l l', Nd.mk.injEq]
    constructor
    · rintro ⟨⟨⟨⟨⟨h1, h2⟩, h3⟩, h4⟩, h5⟩, h6⟩; exact ⟨h1, h5, h2, h3, h4, h6⟩
    · rintro ⟨h1, h5, h2, h3, h4, h6⟩; exact ⟨⟨⟨⟨⟨h1, h2⟩, h3⟩, h4⟩, h5⟩, h6⟩
theorem samesF_eq : ∀ (a b : List Nd), samesF a b = true ↔ a = b
  | [], [] => by simp [samesF]
  | x :: r, y :: t => by
    unfold samesF
    simp only [Bool.and_eq_true, sameF_eq x y, samesF_eq r t, List.cons.injEq]
  | [], _ :: _ => by simp [samesF]
  | _ :: _, [] => by simp [samesF]
end
mutual
/-- no list in it is longer than memory -/
def hugeN : Nd → Prop
  | .mk _ names _ _ _ l => names.length ≤ 281474976710656 ∧ l.length ≤ 281474976710656 ∧ hugesN l
def hugesN : List Nd → Prop
  | [] => True
  | x :: xs => hugeN x ∧ hugesN xs
end
theorem huges_mem : ∀ {l : List Nd} {x : Nd}, hugesN l → x ∈ l → hugeN x
  | a :: l, x, h, hx => by
    unfold hugesN at h
    rcases List.mem_cons.1 hx with rfl | hx
    · exact h.1
    · exact huges_mem h.2 hx
theorem len_size : ∀ (l : List Nd), l.length ≤ sizesF l
  | [] => by simp
  | x :: l => by have := len_size l; have := sizeF_pos x; simp only [sizesF, List.length_cons]; omega
mutual
theorem huge_of : ∀ (n : Nd), sizeF n ≤ 10000000 → bigN n → hugeN n
  | .mk _ names _ _ _ l, hs, hb => by
    unfold bigN at hb
    unfold hugeN
    simp only [sizeF] at hs
    have := len_size l
    exact ⟨by omega, by omega, huges_of l (by omega) hb.2⟩
theorem huges_of : ∀ (l : List Nd), sizesF l ≤ 10000000 → bigsN l → hugesN l
  | [], _, _ => by unfold hugesN; trivial
  | x :: l, hs, hb => by
    unfold bigsN at hb
    unfold hugesN
    simp only [sizesF] at hs
    exact ⟨huge_of x (by omega) hb.1, huges_of l (by omega) hb.2⟩
end
/-- a formula's value, opened -/
theorem nd_open {w : World} {P : Nat → Prop} {op so n m : Int} {xs : List (List UInt8)} {ls : List Nd} {v : Value} (h : NdV w P (.mk op xs so n m ls) v) : ∃ na nc la lc, v = .agg #[.int .i64 op, .slice na xs.length nc, .int .i64 so, .int .i64 n, .int .i64 m, .slice la ls.length lc] ∧
    (∀ i x, xs[i]? = some x → ∃ g o, na = some ⟨g, o, none⟩ ∧ w.cell? ⟨g, o + i, none⟩ = some (.string ⟨x.toArray⟩)) ∧
    (∀ i x, ls[i]? = some x → ∃ g o v0 v1 v2 v3 v4 v5, la = some ⟨g, o, none⟩ ∧ w.cell? ⟨g, o + i * 6, none⟩ = some v0 ∧ w.cell? ⟨g, o + i * 6 + 1, none⟩ = some v1 ∧ w.cell? ⟨g, o + i * 6 + 2, none⟩ = some v2 ∧ w.cell? ⟨g, o + i * 6 + 3, none⟩ = some v3 ∧ w.cell? ⟨g, o + i * 6 + 4, none⟩ = some v4 ∧ w.cell? ⟨g, o + i * 6 + 5, none⟩ = some v5 ∧ NdV w P x (.agg #[v0, v1, v2, v3, v4, v5])) := by
  unfold NdV at h
  obtain ⟨vn, vl, rfl, hs, hl⟩ := h
  obtain ⟨na, nc, rfl, hg⟩ := hs.get
  have hg' : ∀ i x, xs[i]? = some x → ∃ g o, na = some ⟨g, o, none⟩ ∧ w.cell? ⟨g, o + i, none⟩ = some (.string ⟨x.toArray⟩) := fun i x hi => hg i _ (by rw [List.getElem?_map, hi]; rfl)
  rcases hl with ⟨rfl, a, c, rfl⟩ | ⟨g, o, c, rfl, -, hd⟩
  · exact ⟨na, nc, a, c, rfl, hg', fun i x hi => by simp at hi⟩
  · refine ⟨na, nc, _, c, rfl, hg', fun i x hi => ?_⟩
    obtain ⟨v0, v1, v2, v3, v4, v5, c0, c1, c2, c3, c4, c5, hn⟩ := NdsV.get ls o i x hd hi
    exact ⟨g, o, v0, v1, v2, v3, v4, v5, rfl, c0, c1, c2, c3, c4, c5, hn⟩
theorem sizes_memb {x : Nd} : ∀ {l : List Nd}, x ∈ l → sizeF x ≤ sizesF l
  | a :: l, h => by
    simp only [sizesF]
    rcases List.mem_cons.1 h with rfl | h
    · omega
    · have := sizes_memb h; omega
theorem six_form {w : World} {P : Nat → Prop} {x : Nd} {v0 v1 v2 v3 v4 v5 : Value} (h : NdV w P x (.agg #[v0, v1, v2, v3, v4, v5])) : ∃ (op : Int) (a1 : Option Addr) (n1 c1 : Nat) (so n m : Int) (a2 : Option Addr) (n2 c2 : Nat), v0 = .int .i64 op ∧ v1 = .slice a1 n1 c1 ∧ v2 = .int .i64 so ∧ v3 = .int .i64 n ∧ v4 = .int .i64 m ∧ v5 = .slice a2 n2 c2 := by
  obtain ⟨op, a1, n1, c1, so, n, m, a2, n2, c2, e⟩ := h.six
  simp only [Value.agg.injEq, Array.mk.injEq, List.cons.injEq, and_true] at e
  exact ⟨op, a1, n1, c1, so, n, m, a2, n2, c2, e.1, e.2.1, e.2.2.1, e.2.2.2.1, e.2.2.2.2.1, e.2.2.2.2.2⟩

set_option maxRecDepth 100000 in
set_option maxHeartbeats 12800000 in
theorem same_calls : ∀ (k : Nat) (a : Nd), sizeF a ≤ k → hugeN a → ∀ (b : Nd) (P P' : Nat → Prop) (v v' : Value) (w : World), NdV w P a v → NdV w P' b v' → Calls Tryd.prog 28 #[v, v'] w fun e w' => e = .returned (.bool (sameF a b)) ∧ Upto [] w w'
  | 0, a, hn, _ => by have := sizeF_pos a; omega
  | k + 1, .mk op xs so n m ls, hn, hh => by
    intro b P P' v v' w h h'
    obtain ⟨op', xs', so', n', m', ls'⟩ := b
    obtain ⟨na, nc, la, lc, rfl, hgn, hgl⟩ := nd_open h
    obtain ⟨na', nc', la', lc', rfl, hgn', hgl'⟩ := nd_open h'
    clear h h'
    unfold hugeN at hh
    obtain ⟨hx48, hl48, hhs⟩ := hh
    simp only [sizeF] at hn
    have HIH : Hid (∀ (x : Nd), x ∈ ls → ∀ (b : Nd) (P P' : Nat → Prop) (v v' : Value) (w : World), NdV w P x v → NdV w P' b v' → Calls Tryd.prog 28 #[v, v'] w fun e w' => e = .returned (.bool (sameF x b)) ∧ Upto [] w w') := Lib.hid (fun x hx => same_calls k x (by have := sizes_memb hx; omega) (huges_mem hhs hx))
    clear hn hhs
    have hu2 : Upto [] w ((w.alloc (.cells #[.int .i64 op, .slice na xs.length nc, .int .i64 so, .int .i64 n, .int .i64 m, .slice la ls.length lc] 54)).alloc (.cells #[.int .i64 op', .slice na' xs'.length nc', .int .i64 so', .int .i64 n', .int .i64 m', .slice la' ls'.length lc'] 54)) := ((Upto.refl [] w).alloc _).alloc _
    have hb1 := alloc_old (new_at w (.cells #[.int .i64 op, .slice na xs.length nc, .int .i64 so, .int .i64 n, .int .i64 m, .slice la ls.length lc] 54)) (.cells #[.int .i64 op', .slice na' xs'.length nc', .int .i64 so', .int .i64 n', .int .i64 m', .slice la' ls'.length lc'] 54)
    have hb2 := new_at1 w (.cells #[.int .i64 op, .slice na xs.length nc, .int .i64 so, .int .i64 n, .int .i64 m, .slice la ls.length lc] 54) (.cells #[.int .i64 op', .slice na' xs'.length nc', .int .i64 so', .int .i64 n', .int .i64 m', .slice la' ls'.length lc'] 54)
    have HU2 := Lib.hid hu2
    have HB1 := Lib.hid hb1
    have HB2 := Lib.hid hb2
    have HN := Lib.hid hgn
    have HN' := Lib.hid hgn'
    have HL := Lib.hid hgl
    have HL' := Lib.hid hgl'
    have xa0 := cell_of hb1 0
    have xa1 := cell_of hb1 1
    have xa2 := cell_of hb1 2
    have xa3 := cell_of hb1 3
    have xa4 := cell_of hb1 4
    have xa5 := cell_of hb1 5
    simp only [List.getElem?_toArray, List.getElem?_cons_zero, List.getElem?_cons_succ] at xa0 xa1 xa2 xa3 xa4 xa5
    have xb0 := cell_of hb2 0
    have xb1 := cell_of hb2 1
    have xb2 := cell_of hb2 2
    have xb3 := cell_of hb2 3
    have xb4 := cell_of hb2 4
    have xb5 := cell_of hb2 5
    simp only [List.getElem?_toArray, List.getElem?_cons_zero, List.getElem?_cons_succ] at xb0 xb1 xb2 xb3 xb4 xb5
    have n0 : (0 : Int) ≤ xs.length := by omega
    have n1 : (xs.length : Int) ≤ 281474976710656 := by omega
    have l0 : (0 : Int) ≤ ls.length := by omega
    have l1 : (ls.length : Int) ≤ 281474976710656 := by omega
    clear hu2 hb1 hb2 hgn hgn' hgl hgl'
    by_cases e0 : ¬ (op = op')
    · have HF : Hid (sameF (.mk op xs so n m ls) (.mk op' xs' so' n' m' ls') = false) := Lib.hid (by unfold sameF; simp [e0])
      have q1 : (op == op') = false := by rw [beq_eq_false_iff_ne]; exact e0
      have q2 : (op != op') = true := by rw [bne, q1]; rfl
      clear e0
      go_enter Tryd.func28, Tryd.ntmps28
      go_wp2_with fail
      go_ret
      rw [HF.out]
      exact ⟨rfl, HU2.out⟩
    have e0 := Decidable.not_not.1 e0
    subst e0
    by_cases e1 : ¬ (so = so')
    · have HF : Hid (sameF (.mk op xs so n m ls) (.mk op xs' so' n' m' ls') = false) := Lib.hid (by unfold sameF; simp [e1])
      have q1 : (so == so') = false := by rw [beq_eq_false_iff_ne]; exact e1
      have q2 : (so != so') = true := by rw [bne, q1]; rfl
      clear e1
      go_enter Tryd.func28, Tryd.ntmps28
      go_wp2_with fail
      go_ret
      rw [HF.out]
      exact ⟨rfl, HU2.out⟩
    have e1 := Decidable.not_not.1 e1
    subst e1
    by_cases e2 : ¬ (n = n')
    · have HF : Hid (sameF (.mk op xs so n m ls) (.mk op xs' so n' m' ls') = false) := Lib.hid (by unfold sameF; simp [e2])
      have q1 : (n == n') = false := by rw [beq_eq_false_iff_ne]; exact e2
      have q2 : (n != n') = true := by rw [bne, q1]; rfl
      clear e2
      go_enter Tryd.func28, Tryd.ntmps28
      go_wp2_with fail
      go_ret
      rw [HF.out]
      exact ⟨rfl, HU2.out⟩
    have e2 := Decidable.not_not.1 e2
    subst e2
    by_cases e3 : ¬ (m = m')
    · have HF : Hid (sameF (.mk op xs so n m ls) (.mk op xs' so n m' ls') = false) := Lib.hid (by unfold sameF; simp [e3])
      have q1 : (m == m') = false := by rw [beq_eq_false_iff_ne]; exact e3
      have q2 : (m != m') = true := by rw [bne, q1]; rfl
      clear e3
      go_enter Tryd.func28, Tryd.ntmps28
      go_wp2_with fail
      go_ret
      rw [HF.out]
      exact ⟨rfl, HU2.out⟩
    have e3 := Decidable.not_not.1 e3
    subst e3
    by_cases e4 : ¬ (xs.length = xs'.length)
    · have HF : Hid (sameF (.mk op xs so n m ls) (.mk op xs' so n m ls') = false) := Lib.hid (by
        unfold sameF
        have : xs ≠ xs' := fun h => e4 (by rw [h])
        simp [this])
      have q1 : ((xs.length : Int) == (xs'.length : Int)) = false := by rw [beq_eq_false_iff_ne]; omega
      have q2 : ((xs.length : Int) != (xs'.length : Int)) = true := by rw [bne, q1]; rfl
      clear e4
      go_enter Tryd.func28, Tryd.ntmps28
      go_wp2_with fail
      go_ret
      rw [HF.out]
      exact ⟨rfl, HU2.out⟩
    have e4 := Decidable.not_not.1 e4
    by_cases e5 : ¬ (ls.length = ls'.length)
    · have HF : Hid (sameF (.mk op xs so n m ls) (.mk op xs' so n m ls') = false) := Lib.hid (by
        unfold sameF
        have : samesF ls ls' = false := by
          rw [Bool.eq_false_iff]
          intro h
          rw [samesF_eq] at h
          exact e5 (by rw [h])
        simp [this])
      have q0 : ((xs.length : Int) != (xs'.length : Int)) = false := by rw [e4]; simp
      have q1 : ((ls.length : Int) == (ls'.length : Int)) = false := by rw [beq_eq_false_iff_ne]; omega
      have q2 : ((ls.length : Int) != (ls'.length : Int)) = true := by rw [bne, q1]; rfl
      clear e4 e5
      go_enter Tryd.func28, Tryd.ntmps28
      go_wp2_with fail
      go_ret
      rw [HF.out]
      exact ⟨rfl, HU2.out⟩
    have e5 := Decidable.not_not.1 e5
    have q0 : ((xs.length : Int) != (xs'.length : Int)) = false := by rw [e4]; simp
    have q00 : ((ls.length : Int) != (ls'.length : Int)) = false := by rw [e5]; simp
    have E4 := Lib.hid e4
    have E5 := Lib.hid e5
    clear e4 e5
    go_enter Tryd.func28, Tryd.ntmps28
    go_wp2_with fail
    generalize hW2 : (w.alloc (.cells #[.int .i64 op, .slice na xs.length nc, .int .i64 so, .int .i64 n, .int .i64 m, .slice la ls.length lc] 54)).alloc (.cells #[.int .i64 op, .slice na' xs'.length nc', .int .i64 so, .int .i64 n, .int .i64 m, .slice la' ls'.length lc'] 54) = W2 at *
    clear hW2
    go_loopw [5] (fun t5 wr => ∃ j : Nat, j ≤ xs.length ∧ t5 = .int .i64 j ∧ Hid (∀ i, i < j → xs[i]? = xs'[i]?) ∧ Hid (Upto [] W2 wr)) (fun t5 _ => xs.length - (intOf t5).toNat)
    case atStart => exact ⟨0, by omega, rfl, Lib.hid (fun i hi => by omega), Lib.hid (Upto.refl _ _)⟩
    case round =>
      obtain ⟨j, hj, rfl, HE, HU⟩ := hrel
      have hj0 : (0 : Int) ≤ j := by omega
      have h1 := HU.out.at HB1.out (by simp)
      have h2 := HU.out.at HB2.out (by simp)
      have hd := (Upto.refl [] wr).drew
      have h3 := hd.at h1 (by simp)
      have h4 := hd.at h2 (by simp)
      have y1 := cell_of h1 1
      have y2 := cell_of h2 1
      have y3 := cell_of h3 1
      have y4 := cell_of h4 1
      have z1 := cell_of h1 5
      have z2 := cell_of h2 5
      simp only [List.getElem?_toArray, List.getElem?_cons_zero, List.getElem?_cons_succ] at y1 y2 y3 y4 z1 z2
      rcases Nat.lt_or_ge j xs.length with hlt | hge
      · have hltI : (j : Int) < xs.length := by omega
        have hltJ : (j : Int) < xs'.length := by have := E4.out; omega
        obtain ⟨x, hx⟩ : ∃ x, xs[j]? = some x := ⟨_, List.getElem?_eq_getElem hlt⟩
        obtain ⟨y, hy⟩ : ∃ y, xs'[j]? = some y := ⟨_, List.getElem?_eq_getElem (by have := E4.out; omega)⟩
        obtain ⟨g, og, rfl, c0⟩ := HN.out j x hx
        obtain ⟨g', og', rfl, c1⟩ := HN'.out j y hy
        have hw := HU2.out.trans_ext HU.out
        replace c0 := (hw.cell (p := ⟨g, og + j, none⟩) (World.block_lt_of_cell? w _ c0) (by simp)).trans c0
        replace c1 := (hw.cell (p := ⟨g', og' + j, none⟩) (World.block_lt_of_cell? w _ c1) (by simp)).trans c1
        have d0 := (hd.cell (p := ⟨g, og + j, none⟩) (World.block_lt_of_cell? wr _ c0) (by simp)).trans c0
        have d1 := (hd.cell (p := ⟨g', og' + j, none⟩) (World.block_lt_of_cell? wr _ c1) (by simp)).trans c1
        have HD := Lib.hid (HU.out.trans_ext hd)
        by_cases hxy : x = y
        · subst hxy
          have HE2 : Hid (∀ i, i < j + 1 → xs[i]? = xs'[i]?) := Lib.hid (fun i hi => by
            by_cases hij : i = j
            · subst hij; rw [hx, hy]
            · exact HE.out i (by omega))
          clear hx hy hd h1 h2 h3 h4 HE hw
          go_wp2_with fail
          go_region
          all_goals (
            go_wp2_with fail
            go_roundw
            case rel => exact ⟨j + 1, by omega, by go_num, HE2, HD⟩
            case measure => simp [intOf]; omega)
        · have HF : Hid (sameF (.mk op xs so n m ls) (.mk op xs' so n m ls') = false) := Lib.hid (by
            unfold sameF
            have : xs ≠ xs' := fun h => by
              rw [h, hy] at hx
              exact hxy (Option.some.inj hx).symm
            simp [this])
          have q1 : (x == y) = false := by simpa using hxy
          have q2 : (x != y) = true := by rw [bne, q1]; rfl
          have HW := Lib.hid (HU2.out.trans_ext HD.out)
          clear hx hy hd h1 h2 h3 h4 HE hw hxy
          go_wp2_with fail
          go_region
          all_goals (
            go_wp2_with fail
            go_ret
            rw [HF.out]
            exact ⟨rfl, HW.out⟩)
      · have hgeI : ¬ (j : Int) < xs.length := by omega
        obtain rfl : xs = xs' := by
          apply List.ext_getElem?
          intro i
          by_cases hi : i < j
          · exact HE.out i hi
          · rw [List.getElem?_eq_none (by omega), List.getElem?_eq_none (by have := E4.out; omega)]
        have HUA := Lib.hid (HU2.out.trans_ext HU.out)
        have HA1 := Lib.hid h1
        have HA2 := Lib.hid h2
        clear hd h1 h2 h3 h4 y3 y4 HE HU HB1 HB2
        go_wp2_with fail
        go_loopw [6] (fun t6 wx => ∃ i : Nat, i ≤ ls.length ∧ t6 = .int .i64 i ∧ Hid (∀ q x y, q < i → ls[q]? = some x → ls'[q]? = some y → x = y) ∧ Hid (Upto [] wr wx)) (fun t6 _ => ls.length - (intOf t6).toNat)
        case atStart => exact ⟨0, by omega, rfl, Lib.hid (fun q x y hq => by omega), Lib.hid (Upto.refl _ _)⟩
        case round =>
          clear y1 y2 z1 z2
          obtain ⟨i, hi, rfl, HE, HU⟩ := hrel
          have hi0 : (0 : Int) ≤ i := by omega
          have h1 := HU.out.at HA1.out (by simp)
          have h2 := HU.out.at HA2.out (by simp)
          have z1 := cell_of h1 5
          have z2 := cell_of h2 5
          simp only [List.getElem?_toArray, List.getElem?_cons_zero, List.getElem?_cons_succ] at z1 z2
          have HW := Lib.hid (HUA.out.trans_ext HU.out)
          rcases Nat.lt_or_ge i ls.length with hlt | hge
          · have hltI : (i : Int) < ls.length := by omega
            have hltJ : (i : Int) < ls'.length := by have := E5.out; omega
            obtain ⟨x, hx⟩ : ∃ x, ls[i]? = some x := ⟨_, List.getElem?_eq_getElem hlt⟩
            obtain ⟨y, hy⟩ : ∃ y, ls'[i]? = some y := ⟨_, List.getElem?_eq_getElem (by have := E5.out; omega)⟩
            obtain ⟨g, og, v0, v1, v2, v3, v4, v5, rfl, c0, c1, c2, c3, c4, c5, hnx⟩ := HL.out i x hx
            obtain ⟨g', og', u0, u1, u2, u3, u4, u5, rfl, d0, d1, d2, d3, d4, d5, hny⟩ := HL'.out i y hy
            obtain ⟨r1, r2, r3, r4, r5, r6, r7, r8, r9, r10, rfl, rfl, rfl, rfl, rfl, rfl⟩ := six_form hnx
            obtain ⟨s1, s2, s3, s4, s5, s6, s7, s8, s9, s10, rfl, rfl, rfl, rfl, rfl, rfl⟩ := six_form hny
            have hC : ∀ u, Upto [] wr u → Calls Tryd.prog 28 #[.agg #[.int .i64 r1, .slice r2 r3 r4, .int .i64 r5, .int .i64 r6, .int .i64 r7, .slice r8 r9 r10], .agg #[.int .i64 s1, .slice s2 s3 s4, .int .i64 s5, .int .i64 s6, .int .i64 s7, .slice s8 s9 s10]] u fun e w' => e = .returned (.bool (sameF x y)) ∧ Upto [] u w' := fun u hu => HIH.out x (List.mem_of_getElem? hx) y _ _ _ _ u (hnx.ext (HW.out.trans_ext hu)) (hny.ext (HW.out.trans_ext hu))
            replace c0 := (HW.out.cell (World.block_lt_of_cell? w _ c0) (by simp)).trans c0
            replace c1 := (HW.out.cell (World.block_lt_of_cell? w _ c1) (by simp)).trans c1
            replace c2 := (HW.out.cell (World.block_lt_of_cell? w _ c2) (by simp)).trans c2
            replace c3 := (HW.out.cell (World.block_lt_of_cell? w _ c3) (by simp)).trans c3
            replace c4 := (HW.out.cell (World.block_lt_of_cell? w _ c4) (by simp)).trans c4
            replace c5 := (HW.out.cell (World.block_lt_of_cell? w _ c5) (by simp)).trans c5
            replace d0 := (HW.out.cell (World.block_lt_of_cell? w _ d0) (by simp)).trans d0
            replace d1 := (HW.out.cell (World.block_lt_of_cell? w _ d1) (by simp)).trans d1
            replace d2 := (HW.out.cell (World.block_lt_of_cell? w _ d2) (by simp)).trans d2
            replace d3 := (HW.out.cell (World.block_lt_of_cell? w _ d3) (by simp)).trans d3
            replace d4 := (HW.out.cell (World.block_lt_of_cell? w _ d4) (by simp)).trans d4
            replace d5 := (HW.out.cell (World.block_lt_of_cell? w _ d5) (by simp)).trans d5
            have ec0 := fun u : Ext wr => u.cell c0
            have ec1 := fun u : Ext wr => u.cell c1
            have ec2 := fun u : Ext wr => u.cell c2
            have ec3 := fun u : Ext wr => u.cell c3
            have ec4 := fun u : Ext wr => u.cell c4
            have ec5 := fun u : Ext wr => u.cell c5
            have ed0 := fun u : Ext wr => u.cell d0
            have ed1 := fun u : Ext wr => u.cell d1
            have ed2 := fun u : Ext wr => u.cell d2
            have ed3 := fun u : Ext wr => u.cell d3
            have ed4 := fun u : Ext wr => u.cell d4
            have ed5 := fun u : Ext wr => u.cell d5
            have ez1 := fun u : Ext wr => u.cell z1
            have ez2 := fun u : Ext wr => u.cell z2
            have HC := Lib.hid hC
            have hbb : sameF x y = true ∨ sameF x y = false := by cases sameF x y <;> simp
            rcases hbb with hb | hb
            · have HE2 : Hid (∀ q x y, q < i + 1 → ls[q]? = some x → ls'[q]? = some y → x = y) := Lib.hid (fun q x' y' hq hx' hy' => by
                by_cases hqi : q = i
                · subst hqi
                  rw [hx] at hx'
                  rw [hy] at hy'
                  cases hx'
                  cases hy'
                  exact (sameF_eq x y).1 hb
                · exact HE.out q x' y' (by omega) hx' hy')
              rw [hb] at HC
              clear hx hy hnx hny h1 h2 HE hC hb
              go_wp2_with fail
              refine wp_region_seg_all [10] [] [0, 1, 2, 3, 4, 5, 6, 7, 8, 9, 10, 11] (by kernel_rfl) (by kernel_rfl) ?_
              refine seg_plain rfl rfl rfl rfl rfl ?_
              intro K' hK'
              go_big_quiet_op
              go_big_quiet_on
              refine seg_plain rfl rfl rfl rfl rfl ?_
              intro K' hK'
              go_big_quiet_op
              go_big_quiet_on
              refine seg_plain rfl rfl rfl rfl rfl ?_
              intro K' hK'
              go_big_quiet_op
              go_big_quiet_on
              refine seg_plain rfl rfl rfl rfl rfl ?_
              intro K' hK'
              go_big_quiet_op
              go_big_quiet_on
              refine seg_plain rfl rfl rfl rfl rfl ?_
              intro K' hK'
              go_big_quiet_op
              go_big_quiet_on
              refine seg_plain rfl rfl rfl rfl rfl ?_
              intro K' hK'
              go_big_quiet_op
              go_big_quiet_on
              refine seg_plain rfl rfl rfl rfl rfl ?_
              intro K' hK'
              go_big_quiet_op
              go_big_quiet_on
              refine seg_plain rfl rfl rfl rfl rfl ?_
              intro K' hK'
              go_big_quiet_op
              go_big_quiet_on
              refine seg_plain rfl rfl rfl rfl rfl ?_
              intro K' hK'
              go_big_quiet_op
              go_big_quiet_on
              refine seg_plain rfl rfl rfl rfl rfl ?_
              intro K' hK'
              go_big_quiet_op
              go_big_quiet_on
              refine seg_call rfl rfl rfl rfl (fun w => by go_simp) (fun w hu hd => HC.out w hu) ?_
              simp only [Act.put, List.setIfInBounds_toArray, List.set_cons_zero, List.set_cons_succ]
              refine seg_plain rfl rfl rfl rfl rfl ?_
              intro K' hK'
              go_big_quiet_op
              go_big_quiet_on
              intro w9 hg
              have HW9 := Lib.hid (HU.out.trans_ext hg.up)
              clear hg
              go_wp2_with fail
              go_roundw
              case rel => exact ⟨i + 1, by omega, by go_num, HE2, HW9⟩
              case measure => simp [intOf]; omega
            · have HF : Hid (sameF (.mk op xs so n m ls) (.mk op xs so n m ls') = false) := Lib.hid (by
                rw [Bool.eq_false_iff]
                intro h
                rw [sameF_eq] at h
                injection h with _ _ _ _ _ h6
                rw [h6, hy] at hx
                have := Option.some.inj hx
                subst this
                rw [(sameF_eq y y).2 rfl] at hb
                cases hb)
              rw [hb] at HC
              clear hx hy hnx hny h1 h2 HE hC hb
              go_wp2_with fail
              refine wp_region_seg_all [10] [] [0, 1, 2, 3, 4, 5, 6, 7, 8, 9, 10, 11] (by kernel_rfl) (by kernel_rfl) ?_
              refine seg_plain rfl rfl rfl rfl rfl ?_
              intro K' hK'
              go_big_quiet_op
              go_big_quiet_on
              refine seg_plain rfl rfl rfl rfl rfl ?_
              intro K' hK'
              go_big_quiet_op
              go_big_quiet_on
              refine seg_plain rfl rfl rfl rfl rfl ?_
              intro K' hK'
              go_big_quiet_op
              go_big_quiet_on
              refine seg_plain rfl rfl rfl rfl rfl ?_
              intro K' hK'
              go_big_quiet_op
              go_big_quiet_on
              refine seg_plain rfl rfl rfl rfl rfl ?_
              intro K' hK'
              go_big_quiet_op
              go_big_quiet_on
              refine seg_plain rfl rfl rfl rfl rfl ?_
              intro K' hK'
              go_big_quiet_op
              go_big_quiet_on
              refine seg_plain rfl rfl rfl rfl rfl ?_
              intro K' hK'
              go_big_quiet_op
              go_big_quiet_on
              refine seg_plain rfl rfl rfl rfl rfl ?_
              intro K' hK'
              go_big_quiet_op
              go_big_quiet_on
              refine seg_plain rfl rfl rfl rfl rfl ?_
              intro K' hK'
              go_big_quiet_op
              go_big_quiet_on
              refine seg_plain rfl rfl rfl rfl rfl ?_
              intro K' hK'
              go_big_quiet_op
              go_big_quiet_on
              refine seg_call rfl rfl rfl rfl (fun w => by go_simp) (fun w hu hd => HC.out w hu) ?_
              simp only [Act.put, List.setIfInBounds_toArray, List.set_cons_zero, List.set_cons_succ]
              refine seg_plain rfl rfl rfl rfl rfl ?_
              intro K' hK'
              go_big_quiet_op
              go_big_quiet_on
              intro w9 hg
              have HW9 := Lib.hid (HW.out.trans_ext hg.up)
              clear hg
              go_wp2_with fail
              go_ret
              rw [HF.out]
              exact ⟨rfl, HW9.out⟩
          · have hgeI : ¬ (i : Int) < ls.length := by omega
            obtain rfl : ls = ls' := by
              apply List.ext_getElem?
              intro q
              by_cases hq : q < ls.length
              · rw [List.getElem?_eq_getElem hq, List.getElem?_eq_getElem (by have := E5.out; omega)]
                congr 1
                exact HE.out q _ _ (by omega) (List.getElem?_eq_getElem hq) (List.getElem?_eq_getElem _)
              · rw [List.getElem?_eq_none (by omega), List.getElem?_eq_none (by have := E5.out; omega)]
            clear h1 h2 HE
            go_wp2_with fail
            go_ret
            rw [(sameF_eq _ _).2 rfl]
            exact ⟨rfl, HW.out⟩
end Go.Proofs.YtkhbpebpljdifaaDoor


namespace Go.Proofs.YtkhbpebpljdifaaDoor
open Go.RowKit Go.PL Go.Maps

/-- append onto an empty slice, as an opaque step -/
theorem opq_apps {P : Program} (w : World) {o : Oper} {ac : Act} {post : Value → World → Prop} (s x : Operand) (t : TypeId) (ho : o.op = .call { callee := .builtin .append, args := #[s, x], argTypes := #[t, t] })
    (e : TypeId) (i : TypeInfo) (z : Value) (bytes : Nat) (ht : P.underlying t = some (.slice e)) (hi : P.info? e = some i) (hz : i.zero = some z)
    (hsize : i.size = 1) (hby : i.bytes = bytes) (hzs : z.cells.size = 1)
    (b : Nat) (hs : ac.eval s = .slice (some ⟨b, 0, none⟩) 0 0)
    (y : Value) (news : List Value) (n : Nat) (hn : news.length = n) (hx : ac.eval x = y) (hnews : SlC w y news)
    (h63 : n ≤ maxLen) (hbytes : n * bytes ≤ 140737488355328)
    (h : ∀ b' c' w', Upto [] w w' → SlP w' (New w) (.slice b' n c') n news → post (.slice b' n c') w') :
    opqUpon P post ((execOp ac.eval o).run P w) := by
  subst hn
  have hzero : news = [] → (∃ a c, y = .slice a 0 c) → opqUpon P post ((execOp ac.eval o).run P w) := by
    rintro rfl ⟨a, c, rfl⟩
    have hr : (Builtin.append_ #[t, t] o.type #[.slice (some ⟨b, 0, none⟩) 0 0, .slice a 0 c]).run P w = .ok (.slice (some ⟨b, 0, none⟩) 0 0) w := by
      cases a <;> simp [Builtin.append_, run_underlying ht, sizeOf, typeInfo, hi, Builtin.lenOf, Builtin.firstCells, loadCells, loadCellsFrom, storeCells]
    simp only [execOp, ho, resolve, invoke, builtin, Sem.run_bind, Sem.run_pure, Result.andThen_ok, List.map_toArray, List.map_cons, List.map_nil, hs, hx, hr]
    exact h _ _ w (Upto.refl _ _) (Or.inl ⟨rfl, rfl, _, _, rfl⟩)
  rcases hnews with ⟨h0, a, c, h2⟩ | ⟨g, off, c, h2, hc⟩
  · exact hzero h0 ⟨a, c, h2⟩
  · cases news with
    | nil => exact hzero rfl ⟨_, _, h2⟩
    | cons u us =>
      obtain ⟨v', w', hr, hrow, hgr⟩ := run_append_arg_grows (P := P) w t o.type e i z 1 bytes ht hi hz hsize hby hzs (by decide) ⟨b, 0, none⟩ 0 0 [] rfl (by simp) ⟨g, off, none⟩ (u :: us).length c (u :: us) (by simp) (fun j u hj => by simpa [Addr.add_lit] using hc j u hj) (by simp) (by simpa using h63) (by simpa using hbytes)
      simp only [execOp, ho, resolve, invoke, builtin, Sem.run_bind, Sem.run_pure, Result.andThen_ok, List.map_toArray, List.map_cons, List.map_nil, hs, hx, h2, hr]
      rcases hrow.2 with ⟨-, h0⟩ | ⟨g', cap, cur, rfl, hge, hh, _, _, _, htk⟩
      · simp at h0
      · rw [Nat.zero_add] at htk ⊢
        refine h _ _ w' ((Upto.refl [] w).grown hgr (fun k e => by cases e)) (Or.inr ⟨g', 0, cap, rfl, ⟨hge, _, _, _, hh⟩, ?_⟩)
        intro j u' hj
        rw [cell_of hh, Nat.zero_add]
        rw [← List.nil_append (u :: us), ← htk, List.getElem?_take] at hj
        split at hj
        · simpa using hj
        · cases hj
theorem SlP.slc {w : World} {P : Nat → Prop} {v : Value} {xs : List Value} (h : SlP w P v xs.length xs) : SlC w v xs := by
  rcases h with ⟨h0, rfl, a, c, rfl⟩ | ⟨g, o, c, rfl, -, hc⟩
  · exact Or.inl ⟨rfl, a, c, by rfl⟩
  · exact Or.inr ⟨g, o, c, rfl, hc⟩
def BkPost (w : World) (nd : Nd) (e : Ending) (w' : World) : Prop := ∃ v, e = .returned v ∧ NdV w' (New w) nd v ∧ Upto [] w w'
/-- a slice of one's own that holds these formulas -/
structure BkRow (w0 w : World) (B : Nat) (c : Nat → Nat → Value) (v : Value) (ms : List Nd) : Prop where
  row : w.ownsRow 0 54 6 v ms.length (cellsN c ms.length)
  nd : ∀ i m, ms[i]? = some m → NdV w (Lr w0 B v) m (.agg #[c i 0, c i 1, c i 2, c i 3, c i 4, c i 5])
  own : ∀ g, v.ownBlock = some g → w0.heap.size ≤ g ∧ g ≠ B
theorem BkRow.upto {w0 w w' : World} {S : List Nat} {B : Nat} {c : Nat → Nat → Value} {v : Value} {ms : List Nd} (h : BkRow w0 w B c v ms) (hu : Upto S w w') (hS : ∀ k ∈ S, k < w0.heap.size ∨ k = B) : BkRow w0 w' B c v ms :=
  ⟨ownsRow_upto h.row hu (fun g hg hm => by have h1 := h.own g hg; rcases hS g hm with h2 | h2 <;> omega),
   fun i m hi => (h.nd i m hi).upto hu (fun b hb _ hm => by have h1 := hb.1; unfold New at h1; rcases hS b hm with h2 | h2; omega; exact hb.2.1 h2), h.own⟩
theorem BkRow.app {w0 w w5 : World} {B : Nat} {c : Nat → Nat → Value} {v : Value} {ms : List Nd} {m : Nd} {v0 v1 v2 v3 v4 v5 : Value} {b' : Option Addr} {c' : Nat} (h : BkRow w0 w B c v ms) (hsz : w0.heap.size ≤ w.heap.size) (hBw : B < w.heap.size)
    (hm : NdV w (Lr w0 B v) m (.agg #[v0, v1, v2, v3, v4, v5])) (ho : w5.ownsRow 0 54 6 (.slice b' (ms.length + 1) c') (ms.length + 1) (cellsN c ms.length ++ [v0, v1, v2, v3, v4, v5])) (hu : Upto v.ownBlock.toList w w5)
    (hw : ∀ g, (Value.slice b' (ms.length + 1) c').ownBlock = some g → v.ownBlock = some g ∨ w.heap.size ≤ g) : BkRow w0 w5 B (addC c ms.length v0 v1 v2 v3 v4 v5) (.slice b' (ms.length + 1) c') (ms ++ [m]) := by
  have key : ∀ x u, NdV w (Lr w0 B v) x u → NdV w5 (Lr w0 B (.slice b' (ms.length + 1) c')) x u := fun x u hx =>
    NdV.keep ⟨hu.size, fun b hb hl => ⟨⟨hb.1, hb.2.1, fun e => by
      rcases hw b e with h1 | h1
      · exact hb.2.2 h1
      · have := hl.lt; omega⟩, hu.block b hl.lt (fun hmm => hb.2.2 (Option.mem_toList.1 hmm))⟩⟩ x u hx
  refine ⟨?_, ?_, ?_⟩
  · rw [List.length_append, List.length_singleton, cellsN_add]
    exact ho
  · intro i x hi
    by_cases hlt : i < ms.length
    · rw [List.getElem?_append_left hlt] at hi
      have := key _ _ (h.nd i x hi)
      simpa [addC, Nat.ne_of_lt hlt] using this
    · rw [List.getElem?_append_right (by omega)] at hi
      cases hd : i - ms.length with
      | zero =>
        rw [hd] at hi
        simp at hi
        subst hi
        have : i = ms.length := by omega
        subst this
        simpa [addC] using key _ _ hm
      | succ z => rw [hd] at hi; simp at hi
  · intro g hg
    rcases hw g hg with h1 | h1
    · exact h.own g h1
    · exact ⟨by omega, by omega⟩
theorem nds_of {w : World} {P : Nat → Prop} {g : Nat} : ∀ (l : List Nd) (o : Nat), (∀ i x, l[i]? = some x → ∃ v0 v1 v2 v3 v4 v5, w.cell? ⟨g, o + i * 6, none⟩ = some v0 ∧ w.cell? ⟨g, o + i * 6 + 1, none⟩ = some v1 ∧ w.cell? ⟨g, o + i * 6 + 2, none⟩ = some v2 ∧ w.cell? ⟨g, o + i * 6 + 3, none⟩ = some v3 ∧ w.cell? ⟨g, o + i * 6 + 4, none⟩ = some v4 ∧ w.cell? ⟨g, o + i * 6 + 5, none⟩ = some v5 ∧ NdV w P x (.agg #[v0, v1, v2, v3, v4, v5])) → NdsV w P g o l
  | [], _, _ => by unfold NdsV; trivial
  | y :: ys, o, h => by
    unfold NdsV
    refine ⟨by simpa using h 0 y rfl, nds_of ys (o + 6) fun i x hi => ?_⟩
    have := h (i + 1) x (by simpa using hi)
    rwa [show o + (i + 1) * 6 = o + 6 + i * 6 by omega] at this
/-- the row, as a formula's list -/
theorem BkRow.list {w0 w : World} {B : Nat} {c : Nat → Nat → Value} {v : Value} {ms : List Nd} {Q : Nat → Prop} (h : BkRow w0 w B c v ms) (h1 : ∀ b, Lr w0 B v b → Q b) (h2 : ∀ g, v.ownBlock = some g → Q g) : (ms = [] ∧ ∃ a c, v = .slice a 0 c) ∨ ∃ g o c, v = .slice (some ⟨g, o, none⟩) ms.length c ∧ (Q g ∧ IsC w g) ∧ NdsV w Q g o ms := by
  rcases h.row.2 with ⟨e, h0⟩ | ⟨g, cap, cur, e, _, hh, _, _, _, ht⟩
  · exact Or.inl ⟨List.eq_nil_of_length_eq_zero h0, none, 0, e⟩
  · refine Or.inr ⟨g, 0, cap, e, ⟨h2 g (by rw [e]; rfl), _, _, _, hh⟩, nds_of ms 0 fun i x hi => ?_⟩
    have hil : i < ms.length := (List.getElem?_eq_some_iff.1 hi).1
    have cl : ∀ j, j < 6 → w.cell? ⟨g, 0 + i * 6 + j, none⟩ = some (c i j) := fun j hj => by
      rw [cell_of hh]
      have := cellsN_at c hil hj
      rw [← ht, List.getElem?_take] at this
      split at this
      · simpa using this
      · cases this
    exact ⟨_, _, _, _, _, _, cl 0 (by omega), cl 1 (by omega), cl 2 (by omega), cl 3 (by omega), cl 4 (by omega), cl 5 (by omega), (h.nd i x hi).mono fun b hb _ => h1 b hb⟩
theorem info54 : (Tryd.prog.info? 54).map (fun i => (i.zero, i.size, i.bytes)) = some (some (.agg #[.int .i64 0, .slice none 0 0, .int .i64 0, .int .i64 0, .int .i64 0, .slice none 0 0]), 6, 80) := by kernel_rfl
theorem info54' : ∃ i, Tryd.prog.info? 54 = some i ∧ i.zero = some (.agg #[.int .i64 0, .slice none 0 0, .int .i64 0, .int .i64 0, .int .i64 0, .slice none 0 0]) ∧ i.size = 6 ∧ i.bytes = 80 := by
  have h := info54
  cases hi : Tryd.prog.info? 54 with
  | none => rw [hi] at h; cases h
  | some i =>
    rw [hi] at h
    simp only [Option.map_some, Option.some.injEq, Prod.mk.injEq] at h
    exact ⟨i, rfl, h.1, h.2.1, h.2.2⟩
/-- what stands between two rounds -/
structure BkI (w w9 : World) (bn : Nat) (op so nn mm : Int) (na : Option Addr) (nl nc : Nat) (ns : List Value) (l : List Nd) (j : Nat) (wr : World) : Prop where
  up : Upto [bn] w9 wr
  old : Upto [] w wr
  st : ∃ (va : Option Addr) (vn vc : Nat) (c : Nat → Nat → Value), wr.heap[bn]? = some (.cells #[.int .i64 op, .slice na nl nc, .int .i64 so, .int .i64 nn, .int .i64 mm, .slice va vn vc] 54 (0, 0)) ∧ BkRow w9 wr bn c (.slice va vn vc) (l.take j)
theorem back_step {w w9 wr w10 w5 W : World} {bn : Nat} {op so nn mm : Int} {na : Option Addr} {nl nc : Nat} {ns : List Value} {l : List Nd} {vn : Nat} {va : Option Addr} {vc : Nat} {c : Nat → Nat → Value} {x : Nd} {v0 v1 v2 v3 v4 v5 : Value} {b5 : Option Addr} {c5 : Nat}
    (HI : BkI w w9 bn op so nn mm na nl nc ns l vn wr) (HLT : W.heap.size ≤ bn ∧ bn < w9.heap.size) (HWL : w.heap.size < W.heap.size) (HUP : Upto [] W w9)
    (hbk : wr.heap[bn]? = some (.cells #[.int .i64 op, .slice na nl nc, .int .i64 so, .int .i64 nn, .int .i64 mm, .slice va vn vc] 54 (0, 0))) (hrow : BkRow w9 wr bn c (.slice va vn vc) (l.take vn))
    (hu : Upto [] wr w10) (hn : NdV w10 (New wr) x (.agg #[v0, v1, v2, v3, v4, v5])) (hjl : (l.take vn).length = vn) (htk : l.take (vn + 1) = l.take vn ++ [x])
    (ho5 : w5.ownsRow 0 54 6 (.slice b5 (vn + 1) c5) (vn + 1) (cellsN c vn ++ [v0, v1, v2, v3, v4, v5])) (hu5 : Upto (Value.slice va vn vc).ownBlock.toList w10 w5) (hw5 : ∀ g, (Value.slice b5 (vn + 1) c5).ownBlock = some g → (Value.slice va vn vc).ownBlock = some g ∨ w10.heap.size ≤ g) :
    w5.heap[bn]? = some (.cells #[.int .i64 op, .slice na nl nc, .int .i64 so, .int .i64 nn, .int .i64 mm, .slice va vn vc] 54 (0, 0)) ∧ BkI w w9 bn op so nn mm na nl nc ns l (vn + 1) (w5.setCell ⟨bn, 5, none⟩ (.slice b5 (vn + 1) c5)) := by
  have hown : ∀ g, g ∈ (Value.slice va vn vc).ownBlock.toList → w9.heap.size ≤ g ∧ g ≠ bn := fun g hg => hrow.own g (Option.mem_toList.1 hg)
  have hold : ∀ g, (Value.slice va vn vc).ownBlock = some g → g < wr.heap.size := fun g hg => by
    obtain ⟨cur, hh⟩ := ownsRow_block hrow.row hg
    exact lt_of_heap hh
  have hb5 := hu5.at (hu.at hbk (by simp)) (fun hm => (hown _ hm).2 rfl)
  have hst : Upto [bn] w5 (w5.setCell ⟨bn, 5, none⟩ (.slice b5 (vn + 1) c5)) := (Upto.refl [bn] w5).setCell (p := ⟨bn, 5, none⟩) (Or.inl (by simp)) _
  have hs9 := HI.up.size
  have hs10 := hu.size
  have hW := HUP.size
  have hbw := lt_of_heap hbk
  refine ⟨hb5, ⟨?_, ?_, b5, vn + 1, c5, addC c vn v0 v1 v2 v3 v4 v5, ?_, ?_⟩⟩
  · exact ((HI.up.trans_ext hu).trans hu5 (fun k hk => Or.inr (hown k hk).1)).setCell (p := ⟨bn, 5, none⟩) (Or.inl (by simp)) _
  · exact ((HI.old.trans_ext hu).trans hu5 (fun k hk => Or.inr (by have := (hown k hk).1; omega))).setCell (p := ⟨bn, 5, none⟩) (Or.inr (by simp; omega)) _
  · have := set_same hb5 5 (.slice b5 (vn + 1) c5)
    simpa using this
  · have happ := BkRow.app (m := x) (v0 := v0) (v1 := v1) (v2 := v2) (v3 := v3) (v4 := v4) (v5 := v5) (b' := b5) (c' := c5) (w5 := w5) (hrow.upto hu (by simp)) (by omega) (by omega)
      (hn.mono (fun b hb _ => ⟨by unfold New at hb ⊢; omega, by unfold New at hb; omega, fun e => by have := hold b e; unfold New at hb; omega⟩)) (by rw [hjl]; exact ho5) hu5 (by rw [hjl]; exact hw5)
    rw [hjl] at happ
    rw [htk]
    exact happ.upto hst (fun k hk => Or.inr (by simpa using hk))
/-- what was laid for the names is no node's block -/
theorem names_ne {w : World} {P : Nat → Prop} {v : Value} {n : Nat} {names : List (List UInt8)} (h : SlP w P v n (names.map sV)) (hn : n = names.length) {bn : Nat} {T : TypeId} {z : Nat × Nat} (hb : w.heap[bn]? = some (.cells #[.int .i64 0, .slice none 0 0, .int .i64 0, .int .i64 0, .int .i64 0, .slice none 0 0] T z)) : SlP w (fun b => P b ∧ b ≠ bn) v n (names.map sV) := by
  rcases h with h | ⟨g, o, c, rfl, ⟨hg, hi⟩, hc⟩
  · exact Or.inl h
  · cases names with
    | nil => subst hn; exact Or.inl ⟨rfl, rfl, _, c, rfl⟩
    | cons x r =>
      refine Or.inr ⟨g, o, c, rfl, ⟨⟨hg, fun e => ?_⟩, hi⟩, hc⟩
      subst e
      have h0 := hc 0 (sV x) rfl
      rw [cell_of hb] at h0
      have : o + 0 = 0 ∨ o + 0 = 1 ∨ o + 0 = 2 ∨ o + 0 = 3 ∨ o + 0 = 4 ∨ o + 0 = 5 ∨ 6 ≤ o + 0 := by omega
      rcases this with e | e | e | e | e | e | e
      · rw [e] at h0; simp [sV] at h0
      · rw [e] at h0; simp [sV] at h0
      · rw [e] at h0; simp [sV] at h0
      · rw [e] at h0; simp [sV] at h0
      · rw [e] at h0; simp [sV] at h0
      · rw [e] at h0; simp [sV] at h0
      · rw [Array.getElem?_eq_none (by simpa using e)] at h0; cases h0
theorem back_end {w w9 wr W : World} {bn : Nat} {op so nn mm : Int} {na : Option Addr} {nc : Nat} {ns : List Value} {names : List (List UInt8)} {l : List Nd} {vn : Nat} {va : Option Addr} {vc : Nat} {c : Nat → Nat → Value} {P : Nat → Prop}
    (HI : BkI w w9 bn op so nn mm na names.length nc ns l vn wr) (HLT : W.heap.size ≤ bn ∧ bn < w9.heap.size) (HWL : w.heap.size < W.heap.size) (HW2 : w.heap.size + 1 < W.heap.size) (HUP : Upto [] W w9)
    (hbn : w9.heap[bn]? = some (.cells #[.int .i64 0, .slice none 0 0, .int .i64 0, .int .i64 0, .int .i64 0, .slice none 0 0] 54 (0, 0)))
    (hsl : SlP w9 (New W) (.slice na names.length nc) names.length (names.map sV))
    (hz2 : wr.heap[w.heap.size + 1]? = some (.cells #[.int .i64 0, .slice none 0 0, .int .i64 0, .int .i64 0, .int .i64 0, .slice none 0 0] 54 (0, 0)))
    (hrow : BkRow w9 wr bn c (.slice va vn vc) (l.take vn)) (htk : l.take vn = l) (hll : l.length = vn) :
    BkPost w (.mk op names so nn mm l) (.returned (.agg #[.int .i64 op, .slice na names.length nc, .int .i64 so, .int .i64 nn, .int .i64 mm, .slice va vn vc])) ((((((wr.setCell ⟨w.heap.size + 1, 0, none⟩ (.int .i64 op)).setCell ⟨w.heap.size + 1, 1, none⟩ (.slice na names.length nc)).setCell ⟨w.heap.size + 1, 2, none⟩ (.int .i64 so)).setCell ⟨w.heap.size + 1, 3, none⟩ (.int .i64 nn)).setCell ⟨w.heap.size + 1, 4, none⟩ (.int .i64 mm)).setCell ⟨w.heap.size + 1, 5, none⟩ (.slice va vn vc)) := by
  have hst := nd_self wr (w.heap.size + 1) (.int .i64 op) (.slice na names.length nc) (.int .i64 so) (.int .i64 nn) (.int .i64 mm) (.slice va vn vc)
  have hW := HUP.size
  have hrow2 := hrow.upto hst (fun k hk => Or.inl (by simp at hk; omega))
  rw [htk] at hrow2
  have hs2 := ((names_ne hsl rfl hbn).upto HI.up (fun b hb _ => by simpa using hb.2)).upto hst (fun b hb _ => by have := hb.1; unfold New at this; simp; omega)
  refine ⟨_, rfl, ?_, nd_up HI.old (Or.inr (by omega)) ..⟩
  unfold NdV
  refine ⟨_, _, rfl, hs2.mono (fun b hb _ => by have := hb.1; unfold New at this ⊢; omega), ?_⟩
  have := hrow2.list (Q := New w) (fun b hb => by have := hb.1; unfold New at this ⊢; omega) (fun g hg => by have := (hrow.own g hg).1; unfold New; omega)
  exact this

set_option maxRecDepth 100000 in
set_option maxHeartbeats 6400000 in
theorem back_calls : ∀ (k : Nat) (nd : Nd), sizeF nd ≤ k → k ≤ 10000000 → bigN nd → ∀ (P : Nat → Prop) (v : Value) (w : World), NdV w P nd v → Calls Tryd.prog 29 #[v] w (BkPost w nd)
  | 0, nd, hk, _, _, _, _, _, _ => by have := sizeF_pos nd; omega
  | k + 1, .mk op names so nn mm l, hk, hk7, hbg, P, v, w, h => by
    obtain ⟨a1, c1, a2, c2, rfl, hs, hls⟩ := h.open
    unfold bigN at hbg
    have hsz : sizesF l ≤ k := by simp only [sizeF] at hk; omega
    have hln := sizes_len l
    have hu2 : Upto [] w ((w.alloc (.cells #[.int .i64 op, .slice a1 names.length c1, .int .i64 so, .int .i64 nn, .int .i64 mm, .slice a2 l.length c2] 59)).alloc (.cells #[.int .i64 0, .slice none 0 0, .int .i64 0, .int .i64 0, .int .i64 0, .slice none 0 0] 54)) := ((Upto.refl [] w).alloc _).alloc _
    have hb1 := alloc_old (new_at w (.cells #[.int .i64 op, .slice a1 names.length c1, .int .i64 so, .int .i64 nn, .int .i64 mm, .slice a2 l.length c2] 59)) (.cells #[.int .i64 0, .slice none 0 0, .int .i64 0, .int .i64 0, .int .i64 0, .slice none 0 0] 54)
    have hb2 := new_at1 w (.cells #[.int .i64 op, .slice a1 names.length c1, .int .i64 so, .int .i64 nn, .int .i64 mm, .slice a2 l.length c2] 59) (.cells #[.int .i64 0, .slice none 0 0, .int .i64 0, .int .i64 0, .int .i64 0, .slice none 0 0] 54)
    obtain ⟨W, hW⟩ : ∃ W, W = ((w.alloc (.cells #[.int .i64 op, .slice a1 names.length c1, .int .i64 so, .int .i64 nn, .int .i64 mm, .slice a2 l.length c2] 59)).alloc (.cells #[.int .i64 0, .slice none 0 0, .int .i64 0, .int .i64 0, .int .i64 0, .slice none 0 0] 54)) := ⟨_, rfl⟩
    rw [← hW] at hu2 hb1 hb2
    have HU2 := Lib.hid hu2
    have HB1 := Lib.hid hb1
    have HB2 := Lib.hid hb2
    have hns : SlP W P (.slice a1 names.length c1) (names.map sV).length (names.map sV) := by rw [List.length_map]; exact hs.ext hu2
    have HNS := Lib.hid hns.slc
    have HNL := Lib.hid hbg.1
    obtain ⟨i0, hi0, hz0, hz1, hz2⟩ := info9'
    have x0 := cell_of hb1 0
    have x1 := cell_of hb1 1
    have x2 := cell_of hb1 2
    have x3 := cell_of hb1 3
    have x4 := cell_of hb1 4
    have x5 := cell_of hb1 5
    simp only [List.getElem?_toArray, List.getElem?_cons_zero, List.getElem?_cons_succ] at x0 x1 x2 x3 x4 x5
    have hwl : w.heap.size < W.heap.size := lt_of_heap hb1
    have hwr := Upto.refl [] W
    clear hs h hu2 hb1 hb2 hns
    go_enter Tryd.func29, Tryd.ntmps29
    go_wp2_with fail
    simp only [← hW]
    clear hW
    have e0 : ∀ u : Ext W, u.w.cell? ⟨w.heap.size, 0, none⟩ = some _ := fun u => u.cell x0
    have e1 : ∀ u : Ext W, u.w.cell? ⟨w.heap.size, 1, none⟩ = some _ := fun u => u.cell x1
    have e2 : ∀ u : Ext W, u.w.cell? ⟨w.heap.size, 2, none⟩ = some _ := fun u => u.cell x2
    have e3 : ∀ u : Ext W, u.w.cell? ⟨w.heap.size, 3, none⟩ = some _ := fun u => u.cell x3
    have e4 : ∀ u : Ext W, u.w.cell? ⟨w.heap.size, 4, none⟩ = some _ := fun u => u.cell x4
    refine wp_region_seg_at [2, 5] [13] [0, 1, 2, 3, 4, 5, 6, 7, 8, 9, 10, 11, 12, 13] [14] 14 (by kernel_rfl) (by kernel_rfl) (by kernel_rfl) ?_
    refine seg_plain rfl rfl rfl rfl rfl ?_
    intro K' hK'
    go_big_quiet_op
    go_big_quiet_on
    refine seg_plain rfl rfl rfl rfl rfl ?_
    intro K' hK'
    go_big_quiet_op
    go_big_quiet_on
    refine seg_opq (Y := Nat) (fun b => .slice (some ⟨b, 0, none⟩) 0 0) (fun _ _ => True) (fun _ => []) rfl rfl rfl rfl (fun _ _ _ h _ => h) (fun _ => List.nodup_nil) (fun w' post hu hd hp => (congrArg (opqUpon Tryd.prog post) (show _ = Result.ok (Next.value (.slice (some ⟨w'.heap.size, 0, none⟩) 0 0)) (w'.alloc (.cells #[] 9)) from by go_simp)).mpr (hp w'.heap.size _ ((Upto.refl [] w').alloc _) trivial (fun b hb => by cases hb))) ?_
    intro be
    simp only [Act.put, List.setIfInBounds_toArray, List.set_cons_zero, List.set_cons_succ]
    refine seg_plain rfl rfl rfl rfl rfl ?_
    intro K' hK'
    go_big_quiet_op
    go_big_quiet_on
    refine seg_plain rfl rfl rfl rfl rfl ?_
    intro K' hK'
    go_big_quiet_op
    go_big_quiet_on
    refine seg_opq (Y := Option Addr × Nat) (fun y => .slice y.1 names.length y.2) (fun y u => SlP u (New W) (.slice y.1 names.length y.2) names.length (names.map sV)) (fun _ => []) rfl rfl rfl rfl (fun _ _ _ h hu => h.ext hu) (fun _ => List.nodup_nil) (fun w' post hu hd hp => opq_apps w' (.tmp 7) (.tmp 9) 40 rfl 9 i0 (.string ⟨#[]⟩) 16 Tryd.underlying40 hi0 hz0 hz1 hz2 rfl be rfl (.slice a1 names.length c1) (names.map sV) names.length (by simp) rfl (HNS.out.ext hu) (by have := HNL.out; unfold maxLen; omega) (by have := HNL.out; omega) (fun b' c' w2 hu2 hsl => hp (b', c') w2 hu2 (hsl.mono (fun b hb _ => New.mono hu b hb)) (fun b hb => by cases hb))) ?_
    rintro ⟨na, nc⟩
    simp only [Act.put, List.setIfInBounds_toArray, List.set_cons_zero, List.set_cons_succ]
    refine seg_plain rfl rfl rfl rfl rfl ?_
    intro K' hK'
    go_big_quiet_op
    go_big_quiet_on
    refine seg_plain rfl rfl rfl rfl rfl ?_
    intro K' hK'
    go_big_quiet_op
    go_big_quiet_on
    refine seg_plain rfl rfl rfl rfl rfl ?_
    intro K' hK'
    go_big_quiet_op
    go_big_quiet_on
    refine seg_plain rfl rfl rfl rfl rfl ?_
    intro K' hK'
    go_big_quiet_op
    go_big_quiet_on
    refine seg_plain rfl rfl rfl rfl rfl ?_
    intro K' hK'
    go_big_quiet_op
    go_big_quiet_on
    refine seg_plain rfl rfl rfl rfl rfl ?_
    intro K' hK'
    go_big_quiet_op
    go_big_quiet_on
    refine seg_plain rfl rfl rfl rfl rfl ?_
    intro K' hK'
    go_big_quiet_op
    go_big_quiet_on
    refine seg_alloc (.cells #[.int .i64 0, .slice none 0 0, .int .i64 0, .int .i64 0, .int .i64 0, .slice none 0 0] 54) rfl rfl rfl (fun w => by go_simp) ?_
    intro bn
    simp only [Act.put, List.setIfInBounds_toArray, List.set_cons_zero, List.set_cons_succ]
    intro w9 hg
    have hup := hg.up
    have hnb := hg.hold.1
    have hsl := hg.hold.2.1
    have hin := hg.inb
    simp only [List.drop_succ_cons, List.drop_zero]
    have hbn : W.heap.size ≤ bn ∧ bn < w9.heap.size := hin _ (List.Mem.head _) bn (List.Mem.head _)
    have HSL := Lib.hid hsl
    have HUP := Lib.hid hup
    have HBN := Lib.hid hnb
    have HLT := Lib.hid hbn
    have HWL := Lib.hid hwl
    have hw2 : w.heap.size + 1 < W.heap.size := lt_of_heap HB2.out
    have HW2 := Lib.hid hw2
    have n0 := cell_of hnb 0
    have n1 := cell_of hnb 1
    have n2 := cell_of hnb 2
    have n3 := cell_of hnb 3
    have n4 := cell_of hnb 4
    have n5 := cell_of hnb 5
    have f0 := free_of hnb 0
    have f1 := free_of hnb 1
    have f2 := free_of hnb 2
    have f3 := free_of hnb 3
    have f4 := free_of hnb 4
    have f5 := free_of hnb 5
    simp only [List.getElem?_toArray, List.getElem?_cons_zero, List.getElem?_cons_succ] at n0 n1 n2 n3 n4 n5
    have hset := set_same (set_same (set_same (set_same (set_same (set_same hnb 0 (.int .i64 op)) 1 (.slice na names.length nc)) 2 (.int .i64 so)) 3 (.int .i64 nn)) 4 (.int .i64 mm)) 5 (.slice none 0 0)
    simp only [List.setIfInBounds_toArray, List.set_cons_zero, List.set_cons_succ] at hset
    have hsu : Upto [bn] w9 ((((((w9.setCell ⟨bn, 0, none⟩ (.int .i64 op)).setCell ⟨bn, 1, none⟩ (.slice na names.length nc)).setCell ⟨bn, 2, none⟩ (.int .i64 so)).setCell ⟨bn, 3, none⟩ (.int .i64 nn)).setCell ⟨bn, 4, none⟩ (.int .i64 mm)).setCell ⟨bn, 5, none⟩ (.slice none 0 0)) := nd_self ..
    have HI0 : Hid (BkI w w9 bn op so nn mm na names.length nc (names.map sV) l 0 ((((((w9.setCell ⟨bn, 0, none⟩ (.int .i64 op)).setCell ⟨bn, 1, none⟩ (.slice na names.length nc)).setCell ⟨bn, 2, none⟩ (.int .i64 so)).setCell ⟨bn, 3, none⟩ (.int .i64 nn)).setCell ⟨bn, 4, none⟩ (.int .i64 mm)).setCell ⟨bn, 5, none⟩ (.slice none 0 0))) := Lib.hid
      ⟨hsu, (HU2.out.trans_ext hup).trans hsu (fun k hk => Or.inr (by simp at hk; omega)), none, 0, 0, fun _ _ => undef, hset, ⟨by simpa [cellsN] using World.ownsRow_nil _ 0 54 6, by simp, by intro g hg; cases hg⟩⟩
    clear hg hup hnb hsl hin hset hsu e0 e1 e2 e3 e4
    go_wp2_with fail
    have HLS := Lib.hid hls
    have HLN : Hid (l.length ≤ 10000000) := Lib.hid (by omega)
    generalize hll : l.length = ll at *
    have HLL := Lib.hid hll
    have hL0 : (0 : Int) ≤ ll := by omega
    have hL1 : (ll : Int) ≤ 10000000 := by have := HLN.out; omega
    clear hls hll
    go_loopw [4] (fun v wr => ∃ j : Nat, j ≤ ll ∧ v = .int .i64 j ∧ Hid (BkI w w9 bn op so nn mm na names.length nc (names.map sV) l j wr)) (fun v _ => ll - (intOf v).toNat)
    case atStart => exact ⟨0, by omega, rfl, HI0⟩
    case round =>
      obtain ⟨j, hj, rfl, HI⟩ := hrel
      obtain ⟨va, vn, vc, c, hbk, hrow⟩ := HI.out.st
      have hbox := HI.out.up.at (HUP.out.at HB1.out (by simp)) (by have := HLT.out; have := HWL.out; simp; omega)
      have z5 := cell_of hbox 5
      have y5 := cell_of hbk 5
      have g5 := free_of hbk 5
      simp only [List.getElem?_toArray, List.getElem?_cons_zero, List.getElem?_cons_succ] at z5 y5
      obtain ⟨va', vc', hve, -⟩ := ownsRow_len hrow.row
      simp only [Value.slice.injEq] at hve
      have hvn : vn = j := by have := HLL.out; rw [hve.2.1, List.length_take]; omega
      clear hve
      subst hvn
      rcases Nat.lt_or_ge vn ll with hlt | hge
      · obtain ⟨x, hx⟩ : ∃ x, l[vn]? = some x := ⟨_, List.getElem?_eq_getElem (by have := HLL.out; omega)⟩
        obtain ⟨g, o, xo, xn1, xn2, xn3, xs, xm, xq, xl1, xl2, xl3, rfl, c0, c1', c2', c3, c4, c5, hn⟩ := (HLS.out.ext HI.out.old) vn x hx
        have hjl : (l.take vn).length = vn := by have := HLL.out; rw [List.length_take]; omega
        have HJL := Lib.hid hjl
        have HTK : Hid (l.take (vn + 1) = l.take vn ++ [x]) := Lib.hid (by
          obtain ⟨hi, rfl⟩ := List.getElem?_eq_some_iff.1 hx
          exact List.take_succ_eq_append_getElem hi)
        have HROW := Lib.hid hrow
        have HBK := Lib.hid hbk
        have hxs := sizesF_mem (List.mem_of_getElem? hx)
        have HC := Lib.hid (fun w1 (hu : Upto [] wr w1) => back_calls k x (by omega) (by omega) (bigs_mem hbg.2 (List.mem_of_getElem? hx)) P _ w1 (hn.ext hu))
        have hltI : (vn : Int) < ll := by omega
        have hj0 : (0 : Int) ≤ vn := by omega
        clear hrow hbk hbox hn hx
        go_wp2_with fail
        have e0 : ∀ u : Ext wr, u.w.cell? ⟨bn, 5, none⟩ = some (.slice va vn vc) := fun u => u.cell y5
        have e1 : ∀ u : Ext wr, u.w.cell? ⟨w.heap.size, 5, none⟩ = some _ := fun u => u.cell z5
        have k0 : ∀ u : Ext wr, u.w.cell? ⟨g, o + vn * 6, none⟩ = some _ := fun u => u.cell c0
        have k1 : ∀ u : Ext wr, u.w.cell? ⟨g, o + vn * 6 + 1, none⟩ = some _ := fun u => u.cell c1'
        have k2 : ∀ u : Ext wr, u.w.cell? ⟨g, o + vn * 6 + 2, none⟩ = some _ := fun u => u.cell c2'
        have k3 : ∀ u : Ext wr, u.w.cell? ⟨g, o + vn * 6 + 3, none⟩ = some _ := fun u => u.cell c3
        have k4 : ∀ u : Ext wr, u.w.cell? ⟨g, o + vn * 6 + 4, none⟩ = some _ := fun u => u.cell c4
        have k5 : ∀ u : Ext wr, u.w.cell? ⟨g, o + vn * 6 + 5, none⟩ = some _ := fun u => u.cell c5
        clear y5 z5 g5 c0 c1' c2' c3 c4 c5
        refine wp_region_seg_at [7, 8] [] [0, 1, 2, 3, 4, 5, 6, 7, 8] [9, 10, 11] 9 (by kernel_rfl) (by kernel_rfl) (by kernel_rfl) ?_
        refine seg_plain rfl rfl rfl rfl rfl ?_
        intro K' hK'
        go_big_quiet_op
        go_big_quiet_on
        refine seg_plain rfl rfl rfl rfl rfl ?_
        intro K' hK'
        go_big_quiet_op
        go_big_quiet_on
        refine seg_plain rfl rfl rfl rfl rfl ?_
        intro K' hK'
        go_big_quiet_op
        go_big_quiet_on
        refine seg_plain rfl rfl rfl rfl rfl ?_
        intro K' hK'
        go_big_quiet_op
        go_big_quiet_on
        refine seg_plain rfl rfl rfl rfl rfl ?_
        intro K' hK'
        go_big_quiet_op
        go_big_quiet_on
        refine seg_plain rfl rfl rfl rfl rfl ?_
        intro K' hK'
        go_big_quiet_op
        go_big_quiet_on
        refine seg_plain rfl rfl rfl rfl rfl ?_
        intro K' hK'
        go_big_quiet_op
        go_big_quiet_on
        refine seg_callO (Y := (Int × Option Addr × Nat × Nat) × Int × Int × Int × Option Addr × Nat × Nat) (fun y => .agg #[.int .i64 y.1.1, .slice y.1.2.1 y.1.2.2.1 y.1.2.2.2, .int .i64 y.2.1, .int .i64 y.2.2.1, .int .i64 y.2.2.2.1, .slice y.2.2.2.2.1 y.2.2.2.2.2.1 y.2.2.2.2.2.2]) (fun y u => NdV u (New wr) x (.agg #[.int .i64 y.1.1, .slice y.1.2.1 y.1.2.2.1 y.1.2.2.2, .int .i64 y.2.1, .int .i64 y.2.2.1, .int .i64 y.2.2.2.1, .slice y.2.2.2.2.1 y.2.2.2.2.2.1 y.2.2.2.2.2.2])) (fun _ => []) rfl rfl rfl rfl (fun _ _ _ h hu => h.ext hu) (fun _ => List.nodup_nil) (fun w => by go_simp) (fun w' hu hd => (HC.out w' hu).mono fun e w2 ⟨v, h1, h2, h3⟩ => by
          obtain ⟨ro, rn1, rn2, rn3, rs, rm, rq, rl1, rl2, rl3, rfl⟩ := h2.six
          exact ⟨((ro, rn1, rn2, rn3), rs, rm, rq, rl1, rl2, rl3), h1, h3, h2.mono (fun b hb _ => New.mono hu b hb), fun b hb => by cases hb⟩) ?_
        rintro ⟨⟨ro, rn1, rn2, rn3⟩, rs, rm, rq, rl1, rl2, rl3⟩
        simp only [Act.put, List.setIfInBounds_toArray, List.set_cons_zero, List.set_cons_succ]
        refine seg_opq (Y := Nat) (fun b => .slice (some ⟨b, 0, none⟩) 1 1) (fun b u => u.heap[b]? = some (.cells #[.int .i64 ro, .slice rn1 rn2 rn3, .int .i64 rs, .int .i64 rm, .int .i64 rq, .slice rl1 rl2 rl3] 54 (0, 0))) (fun _ => []) rfl rfl rfl rfl (fun _ _ _ h hu => hu.at h (by simp)) (fun _ => List.nodup_nil) (fun w' post hu hd hp => (congrArg (opqUpon Tryd.prog post) (show _ = Result.ok (Next.value (.slice (some ⟨w'.heap.size, 0, none⟩) 1 1)) (w'.alloc (.cells #[.int .i64 ro, .slice rn1 rn2 rn3, .int .i64 rs, .int .i64 rm, .int .i64 rq, .slice rl1 rl2 rl3] 54)) from by go_simp)).mpr (hp w'.heap.size _ ((Upto.refl [] w').alloc _) (new_at _ _) (fun b hb => by cases hb))) ?_
        intro b8
        simp only [Act.put, List.setIfInBounds_toArray, List.set_cons_zero, List.set_cons_succ]
        intro w10 hg
        have HU10 := Lib.hid hg.up
        have HB8 : Hid (w10.heap[b8]? = some (.cells #[.int .i64 ro, .slice rn1 rn2 rn3, .int .i64 rs, .int .i64 rm, .int .i64 rq, .slice rl1 rl2 rl3] 54 (0, 0))) := Lib.hid hg.hold.1
        have HND : Hid (NdV w10 (New wr) x (.agg #[.int .i64 ro, .slice rn1 rn2 rn3, .int .i64 rs, .int .i64 rm, .int .i64 rq, .slice rl1 rl2 rl3])) := Lib.hid hg.hold.2.1
        simp only [List.drop_succ_cons, List.drop_zero]
        clear hg e0 e1 k0 k1 k2 k3 k4 k5
        have HR10 := Lib.hid (HROW.out.upto HU10.out (by simp))
        have hr10 := HR10.out.row
        rw [hjl] at hr10
        have HRR := Lib.hid hr10
        obtain ⟨i1, hi1, hy0, hy1, hy2⟩ := info54'
        have hL7 := HLN.out
        have HA := Lib.hid (fun b5 c5 w5 (ho5 : w5.ownsRow 0 54 6 (.slice b5 (vn + 1) c5) (vn + 1) (cellsN c vn ++ [.int .i64 ro, .slice rn1 rn2 rn3, .int .i64 rs, .int .i64 rm, .int .i64 rq, .slice rl1 rl2 rl3])) (hu5 : Upto (Value.slice va vn vc).ownBlock.toList w10 w5) (hw5 : ∀ g, (Value.slice b5 (vn + 1) c5).ownBlock = some g → (Value.slice va vn vc).ownBlock = some g ∨ w10.heap.size ≤ g) => back_step HI.out HLT.out HWL.out HUP.out HBK.out HROW.out HU10.out HND.out HJL.out HTK.out ho5 hu5 hw5)
        clear hr10 hjl
        go_wp2_with (at_builtin
                     refine wpList_app _ rfl (.tmp 26) (.tmp 33) 52 rfl 54 i1 (.agg #[.int .i64 0, .slice none 0 0, .int .i64 0, .int .i64 0, .int .i64 0, .slice none 0 0]) 6 80 Tryd.underlying52 hi1 hy0 hy1 hy2 rfl (by decide) (.slice va vn vc) vn (cellsN c vn) rfl HRR.out ⟨b8, 0, none⟩ 1 1 [.int .i64 ro, .slice rn1 rn2 rn3, .int .i64 rs, .int .i64 rm, .int .i64 rq, .slice rl1 rl2 rl3] rfl rfl (six_at HB8.out) (by simp [Value.oneCell']) (by unfold maxLen; omega) (by omega) ?_
                     intro b5 c5 w5 ho5 hu5 hw5
                     obtain ⟨hbk5, hI5⟩ := HA.out b5 c5 w5 ho5 hu5 hw5
                     have y5 := cell_of hbk5 5
                     have g5 := free_of hbk5 5
                     simp only [List.getElem?_toArray, List.getElem?_cons_zero, List.getElem?_cons_succ] at y5
                     have HI5 := Lib.hid hI5
                     clear ho5 hu5 hw5 hbk5 hI5)
        go_roundw
        case rel => exact ⟨vn + 1, by omega, by go_num, HI5⟩
        case measure => simp [intOf]; omega
      · obtain rfl : vn = ll := by omega
        have hgeI : ¬ ((vn : Int) < vn) := by omega
        have HROW := Lib.hid hrow
        have HBK := Lib.hid hbk
        have hz2 := HI.out.up.at (HUP.out.at HB2.out (by simp)) (by have h1 := HLT.out; have h2 := HW2.out; simp; omega)
        have HZ2 := Lib.hid hz2
        have p0 := cell_of hbk 0
        have p1 := cell_of hbk 1
        have p2 := cell_of hbk 2
        have p3 := cell_of hbk 3
        have p4 := cell_of hbk 4
        have p5 := cell_of hbk 5
        simp only [List.getElem?_toArray, List.getElem?_cons_zero, List.getElem?_cons_succ] at p0 p1 p2 p3 p4 p5
        have r0 := cell_of hz2 0
        have r1 := cell_of hz2 1
        have r2 := cell_of hz2 2
        have r3 := cell_of hz2 3
        have r4 := cell_of hz2 4
        have r5 := cell_of hz2 5
        simp only [List.getElem?_toArray, List.getElem?_cons_zero, List.getElem?_cons_succ] at r0 r1 r2 r3 r4 r5
        have t0 := free_of hz2 0
        have t1 := free_of hz2 1
        have t2 := free_of hz2 2
        have t3 := free_of hz2 3
        have t4 := free_of hz2 4
        have t5 := free_of hz2 5
        have hF := back_end (names := names) (P := P) HI.out HLT.out HWL.out HW2.out HUP.out HBN.out HSL.out HZ2.out HROW.out (List.take_of_length_le (by have := HLL.out; omega)) HLL.out
        have HF := Lib.hid hF
        clear hrow hbk hz2 hbox hF
        go_wp2_with fail
        have hst := nd_store HZ2.out (.int .i64 op) (.slice na names.length nc) (.int .i64 so) (.int .i64 nn) (.int .i64 mm) (.slice va vn vc)
        have q0 := cell_of hst 0
        have q1 := cell_of hst 1
        have q2 := cell_of hst 2
        have q3 := cell_of hst 3
        have q4 := cell_of hst 4
        have q5 := cell_of hst 5
        simp only [List.getElem?_toArray, List.getElem?_cons_zero, List.getElem?_cons_succ] at q0 q1 q2 q3 q4 q5
        exact bodyPost_ret (v := .agg #[.int .i64 op, .slice na names.length nc, .int .i64 so, .int .i64 nn, .int .i64 mm, .slice va vn vc]) (by simp [results, Tryd.results29, go_sem, q0, q1, q2, q3, q4, q5]) rfl HF.out

end Go.Proofs.YtkhbpebpljdifaaDoor


namespace Go.Proofs.YtkhbpebpljdifaaDoor
open Go.RowKit Go.PL Go.Maps

/-- blocks of the operands, or new ones that are not the two variables' own -/
def JQ (w : World) (P : Nat → Prop) (B7 B9 b : Nat) : Prop := (P b ∧ b < w.heap.size) ∨ (New w b ∧ b ≠ B7 ∧ b ≠ B9)
structure JI (w : World) (P : Nat → Prop) (B7 B9 : Nat) (acc : Nd) (wr : World) : Prop where
  up : Upto [] w wr
  b7 : wr.heap[B7]? = some (.cells #[.int .i64 0, .slice none 0 0, .int .i64 0, .int .i64 0, .int .i64 0, .slice none 0 0] 54 (0, 0))
  st : ∃ (f1 : Int) (f2 : Option Addr) (f3 f4 : Nat) (f5 f6 f7 : Int) (f8 : Option Addr) (f9 f10 : Nat), wr.heap[B9]? = some (.cells #[.int .i64 f1, .slice f2 f3 f4, .int .i64 f5, .int .i64 f6, .int .i64 f7, .slice f8 f9 f10] 54 (0, 0)) ∧ NdV wr (JQ w P B7 B9) acc (.agg #[.int .i64 f1, .slice f2 f3 f4, .int .i64 f5, .int .i64 f6, .int .i64 f7, .slice f8 f9 f10])
theorem JI.store {w wr : World} {P : Nat → Prop} {B7 B9 : Nat} {acc : Nd} {x0 x1 x2 x3 x4 x5 : Value} (hu : Upto [] w wr) (h7 : wr.heap[B7]? = some (.cells #[.int .i64 0, .slice none 0 0, .int .i64 0, .int .i64 0, .int .i64 0, .slice none 0 0] 54 (0, 0))) (h9 : wr.heap[B9]? = some (.cells #[x0, x1, x2, x3, x4, x5] 54 (0, 0))) (hB9 : w.heap.size ≤ B9) (hne : B7 ≠ B9) (f1 : Int) (f2 : Option Addr) (f3 f4 : Nat) (f5 f6 f7 : Int) (f8 : Option Addr) (f9 f10 : Nat) (hn : NdV wr (JQ w P B7 B9) acc (.agg #[.int .i64 f1, .slice f2 f3 f4, .int .i64 f5, .int .i64 f6, .int .i64 f7, .slice f8 f9 f10])) :
    JI w P B7 B9 acc ((((((wr.setCell ⟨B9, 0, none⟩ (.int .i64 f1)).setCell ⟨B9, 1, none⟩ (.slice f2 f3 f4)).setCell ⟨B9, 2, none⟩ (.int .i64 f5)).setCell ⟨B9, 3, none⟩ (.int .i64 f6)).setCell ⟨B9, 4, none⟩ (.int .i64 f7)).setCell ⟨B9, 5, none⟩ (.slice f8 f9 f10)) := by
  have hs := nd_self wr B9 (.int .i64 f1) (.slice f2 f3 f4) (.int .i64 f5) (.int .i64 f6) (.int .i64 f7) (.slice f8 f9 f10)
  refine ⟨nd_up hu (Or.inr hB9) .., hs.at h7 (by simpa using hne), f1, f2, f3, f4, f5, f6, f7, f8, f9, f10, nd_store h9 .., hn.upto hs ?_⟩
  intro b hb _ hm
  have hm : b = B9 := by simpa using hm
  subst hm
  rcases hb with ⟨-, h⟩ | ⟨-, -, h⟩
  · omega
  · exact h rfl
theorem JI.fin {w wr : World} {P : Nat → Prop} {B9 : Nat} {acc : Nd} {x0 x1 x2 x3 x4 x5 : Value} (hu : Upto [] w wr) (h7 : wr.heap[w.heap.size]? = some (.cells #[x0, x1, x2, x3, x4, x5] 54 (0, 0))) {f1 : Int} {f2 : Option Addr} {f3 f4 : Nat} {f5 f6 f7 : Int} {f8 : Option Addr} {f9 f10 : Nat} (hn : NdV wr (JQ w P w.heap.size B9) acc (.agg #[.int .i64 f1, .slice f2 f3 f4, .int .i64 f5, .int .i64 f6, .int .i64 f7, .slice f8 f9 f10])) :
    NdV ((((((wr.setCell ⟨w.heap.size, 0, none⟩ (.int .i64 f1)).setCell ⟨w.heap.size, 1, none⟩ (.slice f2 f3 f4)).setCell ⟨w.heap.size, 2, none⟩ (.int .i64 f5)).setCell ⟨w.heap.size, 3, none⟩ (.int .i64 f6)).setCell ⟨w.heap.size, 4, none⟩ (.int .i64 f7)).setCell ⟨w.heap.size, 5, none⟩ (.slice f8 f9 f10)) (fun b => P b ∨ New w b) acc (.agg #[.int .i64 f1, .slice f2 f3 f4, .int .i64 f5, .int .i64 f6, .int .i64 f7, .slice f8 f9 f10]) ∧ Upto [] w ((((((wr.setCell ⟨w.heap.size, 0, none⟩ (.int .i64 f1)).setCell ⟨w.heap.size, 1, none⟩ (.slice f2 f3 f4)).setCell ⟨w.heap.size, 2, none⟩ (.int .i64 f5)).setCell ⟨w.heap.size, 3, none⟩ (.int .i64 f6)).setCell ⟨w.heap.size, 4, none⟩ (.int .i64 f7)).setCell ⟨w.heap.size, 5, none⟩ (.slice f8 f9 f10)) := by
  have hs := nd_self wr w.heap.size (.int .i64 f1) (.slice f2 f3 f4) (.int .i64 f5) (.int .i64 f6) (.int .i64 f7) (.slice f8 f9 f10)
  refine ⟨(hn.upto hs ?_).mono ?_, nd_up hu (Or.inr (Nat.le_refl _)) ..⟩
  · intro b hb _ hm
    have hm : b = w.heap.size := by simpa using hm
    subst hm
    rcases hb with ⟨-, h⟩ | ⟨-, h, -⟩
    · omega
    · exact h rfl
  · intro b hb _
    rcases hb with ⟨h, -⟩ | ⟨h, -⟩
    · exact Or.inl h
    · exact Or.inr h
theorem JI.ext {w wr w' : World} {P : Nat → Prop} {B7 B9 : Nat} {acc : Nd} (h : JI w P B7 B9 acc wr) (hu : Upto [] wr w') : JI w P B7 B9 acc w' := by
  obtain ⟨f1, f2, f3, f4, f5, f6, f7, f8, f9, f10, h1, h2⟩ := h.st
  exact ⟨h.up.trans_ext hu, hu.at h.b7 (by simp), f1, f2, f3, f4, f5, f6, f7, f8, f9, f10, hu.at h1 (by simp), h2.ext hu⟩
/-- an operand's cells -/
theorem parts_get {w : World} {P : Nat → Prop} {g o k : Nat} {l : List Nd} {x : Nd} (h : NdsV w P g o l) (hk : l[k]? = some x) : ∃ (f1 : Int) (f2 : Option Addr) (f3 f4 : Nat) (f5 f6 f7 : Int) (f8 : Option Addr) (f9 f10 : Nat), w.cell? ⟨g, o + k * 6, none⟩ = some (.int .i64 f1) ∧ w.cell? ⟨g, o + k * 6 + 1, none⟩ = some (.slice f2 f3 f4) ∧ w.cell? ⟨g, o + k * 6 + 2, none⟩ = some (.int .i64 f5) ∧ w.cell? ⟨g, o + k * 6 + 3, none⟩ = some (.int .i64 f6) ∧ w.cell? ⟨g, o + k * 6 + 4, none⟩ = some (.int .i64 f7) ∧ w.cell? ⟨g, o + k * 6 + 5, none⟩ = some (.slice f8 f9 f10) ∧ NdV w P x (.agg #[.int .i64 f1, .slice f2 f3 f4, .int .i64 f5, .int .i64 f6, .int .i64 f7, .slice f8 f9 f10]) := by
  obtain ⟨v0, v1, v2, v3, v4, v5, c0, c1, c2, c3, c4, c5, hn⟩ := NdsV.get l o k x h hk
  obtain ⟨f1, f2, f3, f4, f5, f6, f7, f8, f9, f10, rfl, rfl, rfl, rfl, rfl, rfl⟩ := six_form hn
  exact ⟨f1, f2, f3, f4, f5, f6, f7, f8, f9, f10, c0, c1, c2, c3, c4, c5, hn⟩
theorem jS_len (w : List UInt8) : ∀ (xs : List (List UInt8)) (z : Nat), (∀ x ∈ xs, x.length ≤ z) → (jS w xs).length ≤ xs.length * (z + w.length + 2)
  | [], z, _ => by simp [jS]
  | x :: r, z, h => by
    have hx := h x (by simp)
    have hr : (r.flatMap fun y => 32 :: (w ++ 32 :: y)).length ≤ r.length * (z + w.length + 2) := by
      have key : ∀ r : List (List UInt8), (∀ y ∈ r, y.length ≤ z) → (r.flatMap fun y => 32 :: (w ++ 32 :: y)).length ≤ r.length * (z + w.length + 2) := by
        intro r
        induction r with
        | nil => intro _; simp
        | cons y r ih =>
          intro hy
          have h1 := hy y (by simp)
          have h2 := ih (fun u hu => hy u (by simp [hu]))
          simp only [List.flatMap_cons, List.length_append, List.length_cons, Nat.add_mul, Nat.one_mul] at h2 ⊢
          omega
      exact key r (fun y hy => h y (by simp [hy]))
    simp only [jS, List.length_append, List.length_cons, Nat.add_mul, Nat.one_mul] at hr ⊢
    omega
theorem foldLeft_snoc (op : Int) : ∀ (ms : List Nd) (n m : Nd), foldLeft op n (ms ++ [m]) = .mk op [] 0 0 0 [foldLeft op n ms, m]
  | [], n, m => rfl
  | k :: ms, n, m => by simp only [List.cons_append, foldLeft]; exact foldLeft_snoc op ms _ m

set_option maxRecDepth 100000 in
set_option maxHeartbeats 25600000 in
theorem joined_calls (a : Nat) (ha : a < 4) (n : Nd) (ms : List Nd) (S : Nd → List UInt8) (hlen : ms.length ≤ 7) (hS : ∀ p ∈ n :: ms, (S p).length ≤ 100000) (w : World) (P : Nat → Prop) (g o c : Nat) (hds : NdsV w P g o (n :: ms)) (hg : g < w.heap.size) (hsays : ∀ p ∈ n :: ms, Says w P p (S p)) :
    Calls Tryd.prog 26 #[.slice (some ⟨g, o, none⟩) (ms.length + 1) c, .int .i64 (12 + (a : Int)), .string ⟨(opWord a).toArray⟩] w fun e w' => ∃ v, e = .returned (.tuple #[.string ⟨(jS (opWord a) ((n :: ms).map S)).toArray⟩, v]) ∧ NdV w' (fun b => P b ∨ New w b) (chainF a n ms) v ∧ Upto [] w w' := by
  have hwl : (opWord a).length ≤ 7 := by
    have ha' : a = 0 ∨ a = 1 ∨ a = 2 ∨ a = 3 := by omega
    rcases ha' with rfl | rfl | rfl | rfl <;> decide
  have HPT : Hid (∀ k x, (n :: ms)[k]? = some x → ∃ (f1 : Int) (f2 : Option Addr) (f3 f4 : Nat) (f5 f6 f7 : Int) (f8 : Option Addr) (f9 f10 : Nat), w.cell? ⟨g, o + k * 6, none⟩ = some (.int .i64 f1) ∧ w.cell? ⟨g, o + k * 6 + 1, none⟩ = some (.slice f2 f3 f4) ∧ w.cell? ⟨g, o + k * 6 + 2, none⟩ = some (.int .i64 f5) ∧ w.cell? ⟨g, o + k * 6 + 3, none⟩ = some (.int .i64 f6) ∧ w.cell? ⟨g, o + k * 6 + 4, none⟩ = some (.int .i64 f7) ∧ w.cell? ⟨g, o + k * 6 + 5, none⟩ = some (.slice f8 f9 f10) ∧ NdV w P x (.agg #[.int .i64 f1, .slice f2 f3 f4, .int .i64 f5, .int .i64 f6, .int .i64 f7, .slice f8 f9 f10])) := Lib.hid (fun k x hk => parts_get hds hk)
  have HSA := Lib.hid hsays
  have HSL : Hid (∀ k, k ≤ 8 → (jS (opWord a) (((n :: ms).take k).map S)).length ≤ 1000000) := Lib.hid (fun k hk => by
    have h1 := jS_len (opWord a) (((n :: ms).take k).map S) 100000 (by
      intro x hx
      obtain ⟨p, hp, rfl⟩ := List.mem_map.1 hx
      exact hS p (List.mem_of_mem_take hp))
    have h2 : (((n :: ms).take k).map S).length ≤ 8 := by rw [List.length_map, List.length_take]; omega
    have h3 : (((n :: ms).take k).map S).length * (100000 + (opWord a).length + 2) ≤ 8 * (100000 + (opWord a).length + 2) := Nat.mul_le_mul_right _ h2
    omega)
  have HSP := Lib.hid hS
  generalize hL : ms.length + 1 = L at *
  have HL : Hid ((n :: ms).length = L) := Lib.hid (by simpa using hL)
  have hL8 : (L : Int) ≤ 8 := by omega
  have hL0 : (0 : Int) < L := by omega
  have ha0 : (0 : Int) ≤ a := by omega
  have ha3 : (a : Int) ≤ 3 := by omega
  have hLb : 1 ≤ L ∧ L ≤ 8 := by omega
  obtain ⟨f1, f2, f3, f4, f5, f6, f7, f8, f9, f10, c0, c1, c2, c3, c4, c5, hn0⟩ := HPT.out 0 n rfl
  simp only [Nat.zero_mul, Nat.add_zero] at c0 c1 c2 c3 c4 c5
  have hu1 := (Upto.refl [] w).alloc (.cells #[.int .i64 0, .slice none 0 0, .int .i64 0, .int .i64 0, .int .i64 0, .slice none 0 0] 54)
  have HU1 := Lib.hid hu1
  have HB7 := Lib.hid (new_at w (.cells #[.int .i64 0, .slice none 0 0, .int .i64 0, .int .i64 0, .int .i64 0, .slice none 0 0] 54))
  have e0 := fun u : Ext (w.alloc (.cells #[.int .i64 0, .slice none 0 0, .int .i64 0, .int .i64 0, .int .i64 0, .slice none 0 0] 54)) => u.cell ((hu1.cell (World.block_lt_of_cell? w _ c0) (by simp)).trans c0)
  have e1 := fun u : Ext (w.alloc (.cells #[.int .i64 0, .slice none 0 0, .int .i64 0, .int .i64 0, .int .i64 0, .slice none 0 0] 54)) => u.cell ((hu1.cell (World.block_lt_of_cell? w _ c1) (by simp)).trans c1)
  have e2 := fun u : Ext (w.alloc (.cells #[.int .i64 0, .slice none 0 0, .int .i64 0, .int .i64 0, .int .i64 0, .slice none 0 0] 54)) => u.cell ((hu1.cell (World.block_lt_of_cell? w _ c2) (by simp)).trans c2)
  have e3 := fun u : Ext (w.alloc (.cells #[.int .i64 0, .slice none 0 0, .int .i64 0, .int .i64 0, .int .i64 0, .slice none 0 0] 54)) => u.cell ((hu1.cell (World.block_lt_of_cell? w _ c3) (by simp)).trans c3)
  have e4 := fun u : Ext (w.alloc (.cells #[.int .i64 0, .slice none 0 0, .int .i64 0, .int .i64 0, .int .i64 0, .slice none 0 0] 54)) => u.cell ((hu1.cell (World.block_lt_of_cell? w _ c4) (by simp)).trans c4)
  have e5 := fun u : Ext (w.alloc (.cells #[.int .i64 0, .slice none 0 0, .int .i64 0, .int .i64 0, .int .i64 0, .slice none 0 0] 54)) => u.cell ((hu1.cell (World.block_lt_of_cell? w _ c5) (by simp)).trans c5)
  clear hds hsays hS hlen hu1 c0 c1 c2 c3 c4 c5
  go_enter Tryd.func26, Tryd.ntmps26
  go_wp2_with fail
  refine wp_region_seg_at [] [3] [0, 1, 2, 3, 4] [5] 5 (by kernel_rfl) (by kernel_rfl) (by kernel_rfl) ?_
  refine seg_plain rfl rfl rfl rfl rfl ?_
  intro K' hK'
  go_big_quiet_op
  go_big_quiet_on
  refine seg_plain rfl rfl rfl rfl rfl ?_
  intro K' hK'
  go_big_quiet_op
  go_big_quiet_on
  refine seg_plain rfl rfl rfl rfl rfl ?_
  intro K' hK'
  go_big_quiet_op
  go_big_quiet_on
  refine seg_alloc (.cells #[.int .i64 0, .slice none 0 0, .int .i64 0, .int .i64 0, .int .i64 0, .slice none 0 0] 54) rfl rfl rfl (fun w => by go_simp) ?_
  intro B9
  simp only [Act.put, List.setIfInBounds_toArray, List.set_cons_zero, List.set_cons_succ]
  refine seg_plain rfl rfl rfl rfl rfl ?_
  intro K' hK'
  go_big_quiet_op
  go_big_quiet_on
  intro w3 hg3
  have hb9 := hg3.hold.1
  have hin := hg3.inb
  have hbn := hin _ (List.Mem.head _) B9 (List.Mem.head _)
  have hsz : (w.alloc (.cells #[.int .i64 0, .slice none 0 0, .int .i64 0, .int .i64 0, .int .i64 0, .slice none 0 0] 54)).heap.size = w.heap.size + 1 := by simp
  rw [hsz] at hbn
  have HN7 : Hid (w.heap.size ≠ B9) := Lib.hid (by omega)
  have HG9 : Hid (w.heap.size ≤ B9) := Lib.hid (by omega)
  have HU3 := Lib.hid (HU1.out.trans_ext hg3.up)
  have HB73 := Lib.hid (hg3.up.at HB7.out (by simp))
  have HB93 := Lib.hid hb9
  simp only [List.drop_succ_cons, List.drop_zero]
  skip
  have x0 := cell_of hb9 0
  have x1 := cell_of hb9 1
  have x2 := cell_of hb9 2
  have x3 := cell_of hb9 3
  have x4 := cell_of hb9 4
  have x5 := cell_of hb9 5
  have xf0 := free_of hb9 0
  have xf1 := free_of hb9 1
  have xf2 := free_of hb9 2
  have xf3 := free_of hb9 3
  have xf4 := free_of hb9 4
  have xf5 := free_of hb9 5
  simp only [List.getElem?_toArray, List.getElem?_cons_zero, List.getElem?_cons_succ] at x0 x1 x2 x3 x4 x5
  have HI0 : Hid (JI w P w.heap.size B9 n ((((((w3.setCell ⟨B9, 0, none⟩ (.int .i64 f1)).setCell ⟨B9, 1, none⟩ (.slice f2 f3 f4)).setCell ⟨B9, 2, none⟩ (.int .i64 f5)).setCell ⟨B9, 3, none⟩ (.int .i64 f6)).setCell ⟨B9, 4, none⟩ (.int .i64 f7)).setCell ⟨B9, 5, none⟩ (.slice f8 f9 f10))) := Lib.hid (JI.store HU3.out HB73.out HB93.out HG9.out HN7.out f1 f2 f3 f4 f5 f6 f7 f8 f9 f10 ((hn0.mono (fun b hb hc => Or.inl ⟨hb, hc.lt⟩)).ext HU3.out))
  clear hg3 hb9 hin hbn hsz e0 e1 e2 e3 e4 e5
  go_wp2_with fail
  generalize hW0 : (((((w3.setCell ⟨B9, 0, none⟩ (.int .i64 f1)).setCell ⟨B9, 1, none⟩ (.slice f2 f3 f4)).setCell ⟨B9, 2, none⟩ (.int .i64 f5)).setCell ⟨B9, 3, none⟩ (.int .i64 f6)).setCell ⟨B9, 4, none⟩ (.int .i64 f7)).setCell ⟨B9, 5, none⟩ (.slice f8 f9 f10) = W0 at *
  clear hW0
  go_loopw [8, 10] (fun t8 t10 wr => ∃ k : Nat, k ≤ L ∧ t8 = .string ⟨(jS (opWord a) (((n :: ms).take k).map S)).toArray⟩ ∧ t10 = .int .i64 k ∧ Hid (JI w P w.heap.size B9 (foldLeft (12 + (a : Int)) n (ms.take (k - 1))) wr)) (fun _ t10 _ => L - (intOf t10).toNat)
  case atStart => exact ⟨0, by omega, by simp [jS], rfl, HI0⟩
  case round =>
    obtain ⟨k, hk, rfl, rfl, HI⟩ := hrel
    have hk0 : (0 : Int) ≤ k := by omega
    rcases Nat.lt_or_ge k L with hlt | hge
    · have hltI : (k : Int) < L := by omega
      have hTl := HSL.out k (by omega)
      obtain ⟨p, hp⟩ : ∃ p, (n :: ms)[k]? = some p := ⟨_, List.getElem?_eq_getElem (by rw [HL.out]; exact hlt)⟩
      have hpm := List.mem_of_getElem? hp
      obtain ⟨q1, q2, q3, q4, q5, q6, q7, q8, q9, q10, c0, c1, c2, c3, c4, c5, hnp⟩ := HPT.out k p hp
      have hup := HI.out.up
      have HCC : Hid (w.cell? ⟨g, o + k * 6, none⟩ = some (.int .i64 q1) ∧ w.cell? ⟨g, o + k * 6 + 1, none⟩ = some (.slice q2 q3 q4) ∧ w.cell? ⟨g, o + k * 6 + 2, none⟩ = some (.int .i64 q5) ∧ w.cell? ⟨g, o + k * 6 + 3, none⟩ = some (.int .i64 q6) ∧ w.cell? ⟨g, o + k * 6 + 4, none⟩ = some (.int .i64 q7) ∧ w.cell? ⟨g, o + k * 6 + 5, none⟩ = some (.slice q8 q9 q10)) := Lib.hid ⟨c0, c1, c2, c3, c4, c5⟩
      replace c0 := (hup.cell (World.block_lt_of_cell? w _ c0) (by simp)).trans c0
      replace c1 := (hup.cell (World.block_lt_of_cell? w _ c1) (by simp)).trans c1
      replace c2 := (hup.cell (World.block_lt_of_cell? w _ c2) (by simp)).trans c2
      replace c3 := (hup.cell (World.block_lt_of_cell? w _ c3) (by simp)).trans c3
      replace c4 := (hup.cell (World.block_lt_of_cell? w _ c4) (by simp)).trans c4
      replace c5 := (hup.cell (World.block_lt_of_cell? w _ c5) (by simp)).trans c5
      have HNP : Hid (NdV w (JQ w P w.heap.size B9) p (.agg #[.int .i64 q1, .slice q2 q3 q4, .int .i64 q5, .int .i64 q6, .int .i64 q7, .slice q8 q9 q10])) := Lib.hid (hnp.mono (fun b hb hc => Or.inl ⟨hb, hc.lt⟩))
      have HSAY : Hid (∀ u, Upto [] w u → Calls Tryd.prog 49 #[.agg #[.int .i64 q1, .slice q2 q3 q4, .int .i64 q5, .int .i64 q6, .int .i64 q7, .slice q8 q9 q10]] u fun e w' => e = .returned (.string ⟨(S p).toArray⟩) ∧ Upto [] u w') := Lib.hid (fun u hu => HSA.out p hpm _ u hu (hnp.ext hu))
      have hspl := HSP.out p hpm
      have HTK : Hid ((n :: ms).take (k + 1) = (n :: ms).take k ++ [p]) := Lib.hid (by
        obtain ⟨hi, h2⟩ := List.getElem?_eq_some_iff.1 hp
        rw [List.take_succ_eq_append_getElem hi, h2])
      have HPM := Lib.hid hp
      clear hnp hpm hp
      rcases Nat.eq_zero_or_pos k with hz | hkp
      · subst hz
        simp only [Nat.zero_mul, Nat.add_zero] at c0 c1 c2 c3 c4 c5
        have HX : Hid (jS (opWord a) (((n :: ms).take 1).map S) = jS (opWord a) (((n :: ms).take 0).map S) ++ S p) := Lib.hid (by
          have h := HTK.out
          rw [Nat.zero_add] at h
          rw [h]
          simp [jS])
        have HI2 : Hid (∀ u, Upto [] wr u → JI w P w.heap.size B9 (foldLeft (12 + (a : Int)) n (ms.take (1 - 1))) u) := Lib.hid (fun u hu => HI.out.ext hu)
        generalize jS (opWord a) (((n :: ms).take 0).map S) = T at *
        generalize S p = sp at *
        have hc1 : ByteArray.mk T.toArray ++ ByteArray.mk sp.toArray = ⟨(T ++ sp).toArray⟩ := by rw [ByteArray.mk_append_mk]
        have hP1 : (ByteArray.mk T.toArray).size = T.length := rfl
        have hP2 : (ByteArray.mk sp.toArray).size = sp.length := rfl
        have sm1 : T.length + sp.length ≤ 9223372036854775807 := by omega
        clear hup HTK HPM
        go_wp2_with fail
        refine (HSAY.out _ HI.out.up).mono ?_
        rintro e w5 ⟨rfl, hu5⟩
        have HJ := Lib.hid (HI2.out w5 hu5)
        clear hu5
        go_wp2_with fail
        go_roundw
        case rel => exact ⟨1, by omega, by rw [HX.out], by go_num, HJ⟩
        case measure => simp [intOf]; omega
      · have hkI : (k : Int) > 0 := by omega
        have hkI2 : (0 : Int) < k := by omega
        have HX : Hid (jS (opWord a) (((n :: ms).take (k + 1)).map S) = jS (opWord a) (((n :: ms).take k).map S) ++ [32] ++ opWord a ++ [32] ++ S p) := Lib.hid (by
          rw [HTK.out, List.map_append, List.map_singleton, jS_snoc]
          · simp
          · intro h
            have := congrArg List.length h
            simp only [List.length_map, List.length_take, List.length_nil] at this
            have := HL.out
            omega)
        have HFL : Hid (foldLeft (12 + (a : Int)) n (ms.take (k + 1 - 1)) = .mk (12 + (a : Int)) [] 0 0 0 [foldLeft (12 + (a : Int)) n (ms.take (k - 1)), p]) := Lib.hid (by
          obtain ⟨j, rfl⟩ : ∃ j, k = j + 1 := ⟨k - 1, by omega⟩
          have h := HTK.out
          simp only [List.take_succ_cons, List.cons_append, List.cons.injEq, true_and] at h
          simp only [Nat.add_sub_cancel]
          rw [h, foldLeft_snoc])
        generalize jS (opWord a) (((n :: ms).take k).map S) = T at *
        generalize S p = sp at *
        generalize opWord a = W at *
        have hc1 : ByteArray.mk T.toArray ++ ByteArray.mk #[32] = ⟨(T ++ [32]).toArray⟩ := by
          show _ ++ ByteArray.mk [32].toArray = _
          rw [ByteArray.mk_append_mk]
        have hc2 : ByteArray.mk (T ++ [32]).toArray ++ ByteArray.mk W.toArray = ⟨(T ++ [32] ++ W).toArray⟩ := by rw [ByteArray.mk_append_mk]
        have hc3 : ByteArray.mk (T ++ [32] ++ W).toArray ++ ByteArray.mk #[32] = ⟨(T ++ [32] ++ W ++ [32]).toArray⟩ := by
          show _ ++ ByteArray.mk [32].toArray = _
          rw [ByteArray.mk_append_mk]
        have hc4 : ByteArray.mk (T ++ [32] ++ W ++ [32]).toArray ++ ByteArray.mk sp.toArray = ⟨(T ++ [32] ++ W ++ [32] ++ sp).toArray⟩ := by rw [ByteArray.mk_append_mk]
        have hP1 : (ByteArray.mk T.toArray).size = T.length := rfl
        have hP2 : (ByteArray.mk sp.toArray).size = sp.length := rfl
        have hP3 : (ByteArray.mk W.toArray).size = W.length := rfl
        have hP4 : (ByteArray.mk #[32]).size = 1 := rfl
        have hP5 : (ByteArray.mk (T ++ [32]).toArray).size = T.length + 1 := by show (T ++ [32]).toArray.size = _; simp
        have hP6 : (ByteArray.mk (T ++ [32] ++ W).toArray).size = T.length + 1 + W.length := by show (T ++ [32] ++ W).toArray.size = _; simp; omega
        have hP7 : (ByteArray.mk (T ++ [32] ++ W ++ [32]).toArray).size = T.length + 1 + W.length + 1 := by show (T ++ [32] ++ W ++ [32]).toArray.size = _; simp; omega
        have sm0 : T.length + 1 ≤ 9223372036854775807 := by omega
        have sm1 : T.length + 1 + W.length ≤ 9223372036854775807 := by omega
        have sm2 : T.length + 1 + W.length + 1 ≤ 9223372036854775807 := by omega
        have sm3 : T.length + 1 + W.length + 1 + sp.length ≤ 9223372036854775807 := by omega
        obtain ⟨r1, r2, r3, r4, r5, r6, r7, r8, r9, r10, hb9, hnr⟩ := HI.out.st
        have HNR := Lib.hid hnr
        have ec0 := fun u : Ext wr => u.cell c0
        have ec1 := fun u : Ext wr => u.cell c1
        have ec2 := fun u : Ext wr => u.cell c2
        have ec3 := fun u : Ext wr => u.cell c3
        have ec4 := fun u : Ext wr => u.cell c4
        have ec5 := fun u : Ext wr => u.cell c5
        have er0 : ∀ u : Ext wr, u.w.cell? ⟨B9, 0, none⟩ = some (.int .i64 r1) := fun u => u.cell (cell_of hb9 0)
        have er1 : ∀ u : Ext wr, u.w.cell? ⟨B9, 1, none⟩ = some (.slice r2 r3 r4) := fun u => u.cell (cell_of hb9 1)
        have er2 : ∀ u : Ext wr, u.w.cell? ⟨B9, 2, none⟩ = some (.int .i64 r5) := fun u => u.cell (cell_of hb9 2)
        have er3 : ∀ u : Ext wr, u.w.cell? ⟨B9, 3, none⟩ = some (.int .i64 r6) := fun u => u.cell (cell_of hb9 3)
        have er4 : ∀ u : Ext wr, u.w.cell? ⟨B9, 4, none⟩ = some (.int .i64 r7) := fun u => u.cell (cell_of hb9 4)
        have er5 : ∀ u : Ext wr, u.w.cell? ⟨B9, 5, none⟩ = some (.slice r8 r9 r10) := fun u => u.cell (cell_of hb9 5)
        have HB9r := Lib.hid hb9
        clear hup HTK HPM hnr hb9
        go_wp2_with fail
        refine wp_region_seg_at [6] [] [0, 1, 2, 3, 4, 5, 6, 7] [8] 8 (by kernel_rfl) (by kernel_rfl) (by kernel_rfl) ?_
        refine seg_plain rfl rfl rfl rfl rfl ?_
        intro K' hK'
        go_big_quiet_op
        go_big_quiet_on
        refine seg_plain rfl rfl rfl rfl rfl ?_
        intro K' hK'
        go_big_quiet_op
        go_big_quiet_on
        refine seg_plain rfl rfl rfl rfl rfl ?_
        intro K' hK'
        go_big_quiet_op
        go_big_quiet_on
        refine seg_plain rfl rfl rfl rfl rfl ?_
        intro K' hK'
        go_big_quiet_op
        go_big_quiet_on
        refine seg_plain rfl rfl rfl rfl rfl ?_
        intro K' hK'
        go_big_quiet_op
        go_big_quiet_on
        refine seg_plain rfl rfl rfl rfl rfl ?_
        intro K' hK'
        go_big_quiet_op
        go_big_quiet_on
        refine seg_opq (Y := Nat) (fun b => .slice (some ⟨b, 0, none⟩) 2 2) (fun b u => u.heap[b]? = some (.cells #[.int .i64 r1, .slice r2 r3 r4, .int .i64 r5, .int .i64 r6, .int .i64 r7, .slice r8 r9 r10, .int .i64 q1, .slice q2 q3 q4, .int .i64 q5, .int .i64 q6, .int .i64 q7, .slice q8 q9 q10] 54 (0, 0)) ∧ wr.heap.size ≤ b) (fun _ => []) rfl rfl rfl rfl (fun _ _ _ h hu => ⟨hu.at h.1 (by simp), h.2⟩) (fun _ => List.nodup_nil) (fun w' post hu hd hp => (congrArg (opqUpon Tryd.prog post) (show _ = Result.ok (Next.value (.slice (some ⟨w'.heap.size, 0, none⟩) 2 2)) (w'.alloc (.cells #[.int .i64 r1, .slice r2 r3 r4, .int .i64 r5, .int .i64 r6, .int .i64 r7, .slice r8 r9 r10, .int .i64 q1, .slice q2 q3 q4, .int .i64 q5, .int .i64 q6, .int .i64 q7, .slice q8 q9 q10] 54)) from by go_simp)).mpr (hp w'.heap.size _ ((Upto.refl [] w').alloc _) ⟨new_at _ _, hu.size⟩ (fun b hb => by cases hb))) ?_
        intro b6
        simp only [Act.put, List.setIfInBounds_toArray, List.set_cons_zero, List.set_cons_succ]
        refine seg_plain rfl rfl rfl rfl rfl ?_
        intro K' hK'
        go_big_quiet_op
        go_big_quiet_on
        intro w9 hg
        have HU9 := Lib.hid (HI.out.up.trans_ext hg.up)
        have HB6 := Lib.hid hg.hold.1.1
        have HG6 := Lib.hid hg.hold.1.2
        have HB79 := Lib.hid (hg.up.at HI.out.b7 (by simp))
        have hb9 := hg.up.at HB9r.out (by simp)
        have HB99 := Lib.hid hb9
        have hb9w := lt_of_heap HB9r.out
        have hb7w := lt_of_heap HI.out.b7
        have HN : Hid (NdV w9 (JQ w P w.heap.size B9) (.mk (12 + (a : Int)) [] 0 0 0 [foldLeft (12 + (a : Int)) n (ms.take (k - 1)), p]) (.agg #[.int .i64 (12 + (a : Int)), .slice none 0 0, .int .i64 0, .int .i64 0, .int .i64 0, .slice (some ⟨b6, 0, none⟩) 2 2])) := Lib.hid (NdV.two SlP.nil (HNR.out.ext hg.up) (HNP.out.ext (HI.out.up.trans_ext hg.up)) (Or.inr ⟨by unfold New; have := HG6.out; have := HI.out.up.size; omega, by have := HG6.out; omega, by have := HG6.out; omega⟩) HB6.out)
        simp only [List.drop_succ_cons, List.drop_zero]
        have x0 := cell_of hb9 0
        have x1 := cell_of hb9 1
        have x2 := cell_of hb9 2
        have x3 := cell_of hb9 3
        have x4 := cell_of hb9 4
        have x5 := cell_of hb9 5
        have xf0 := free_of hb9 0
        have xf1 := free_of hb9 1
        have xf2 := free_of hb9 2
        have xf3 := free_of hb9 3
        have xf4 := free_of hb9 4
        have xf5 := free_of hb9 5
        simp only [List.getElem?_toArray, List.getElem?_cons_zero, List.getElem?_cons_succ] at x0 x1 x2 x3 x4 x5
        have HI3 : Hid (JI w P w.heap.size B9 (.mk (12 + (a : Int)) [] 0 0 0 [foldLeft (12 + (a : Int)) n (ms.take (k - 1)), p]) ((((((w9.setCell ⟨B9, 0, none⟩ (.int .i64 (12 + (a : Int)))).setCell ⟨B9, 1, none⟩ (.slice none 0 0)).setCell ⟨B9, 2, none⟩ (.int .i64 0)).setCell ⟨B9, 3, none⟩ (.int .i64 0)).setCell ⟨B9, 4, none⟩ (.int .i64 0)).setCell ⟨B9, 5, none⟩ (.slice (some ⟨b6, 0, none⟩) 2 2))) := Lib.hid (JI.store HU9.out HB79.out HB99.out HG9.out HN7.out (12 + (a : Int)) none 0 0 0 0 0 (some ⟨b6, 0, none⟩) 2 2 HN.out)
        have hu3 := HI3.out.up
        have HC := HCC.out
        obtain ⟨c0, c1, c2, c3, c4, c5⟩ := HC
        replace c0 := (hu3.cell (World.block_lt_of_cell? w _ c0) (by simp)).trans c0
        replace c1 := (hu3.cell (World.block_lt_of_cell? w _ c1) (by simp)).trans c1
        replace c2 := (hu3.cell (World.block_lt_of_cell? w _ c2) (by simp)).trans c2
        replace c3 := (hu3.cell (World.block_lt_of_cell? w _ c3) (by simp)).trans c3
        replace c4 := (hu3.cell (World.block_lt_of_cell? w _ c4) (by simp)).trans c4
        replace c5 := (hu3.cell (World.block_lt_of_cell? w _ c5) (by simp)).trans c5
        clear hg hb9 hu3 ec0 ec1 ec2 ec3 ec4 ec5 er0 er1 er2 er3 er4 er5 hb9w hb7w
        go_wp2_with fail
        refine (HSAY.out _ HI3.out.up).mono ?_
        rintro e w5 ⟨rfl, hu5⟩
        have HJ := Lib.hid (HI3.out.ext hu5)
        clear hu5
        go_wp2_with fail
        go_roundw
        case rel => exact ⟨k + 1, by omega, by rw [HX.out]; exact congrArg Value.string (by rw [show (ByteArray.mk #[32]) = ByteArray.mk [32].toArray from rfl, ByteArray.mk_append_mk, ByteArray.mk_append_mk]; simp), by go_num, Lib.hid (by rw [HFL.out]; exact HJ.out)⟩
        case measure => simp [intOf]; omega
    · obtain rfl : k = L := by omega
      have hgeI : ¬ (k : Int) < k := by omega
      have hkk : (n :: ms).take k = n :: ms := List.take_of_length_le (by rw [HL.out]; exact Nat.le_refl _)
      have hkm : ms.take (k - 1) = ms := List.take_of_length_le (by have := HL.out; simp at this; omega)
      rw [hkm] at HI
      have HT : Hid (jS (opWord a) ((n :: ms).map S) = jS (opWord a) (((n :: ms).take k).map S)) := Lib.hid (by rw [hkk])
      generalize jS (opWord a) (((n :: ms).take k).map S) = T at *
      by_cases h2 : a = 2
      · subst h2
        have HCH : Hid (chainF 2 n ms = implFold (n :: ms)) := Lib.hid rfl
        obtain ⟨p, hp⟩ : ∃ p, (n :: ms)[k - 1]? = some p := ⟨_, List.getElem?_eq_getElem (by rw [HL.out]; omega)⟩
        obtain ⟨q1, q2, q3, q4, q5, q6, q7, q8, q9, q10, c0, c1, c2, c3, c4, c5, hnp⟩ := HPT.out (k - 1) p hp
        have hup := HI.out.up
        replace c0 := (hup.cell (World.block_lt_of_cell? w _ c0) (by simp)).trans c0
        replace c1 := (hup.cell (World.block_lt_of_cell? w _ c1) (by simp)).trans c1
        replace c2 := (hup.cell (World.block_lt_of_cell? w _ c2) (by simp)).trans c2
        replace c3 := (hup.cell (World.block_lt_of_cell? w _ c3) (by simp)).trans c3
        replace c4 := (hup.cell (World.block_lt_of_cell? w _ c4) (by simp)).trans c4
        replace c5 := (hup.cell (World.block_lt_of_cell? w _ c5) (by simp)).trans c5
        have HNP : Hid (NdV w (JQ w P w.heap.size B9) p (.agg #[.int .i64 q1, .slice q2 q3 q4, .int .i64 q5, .int .i64 q6, .int .i64 q7, .slice q8 q9 q10])) := Lib.hid (hnp.mono (fun b hb hc => Or.inl ⟨hb, hc.lt⟩))
        obtain ⟨r1, r2, r3, r4, r5, r6, r7, r8, r9, r10, hb9, hnr⟩ := HI.out.st
        have hk1 : (k : Int) - 1 = ((k - 1 : Nat) : Int) := by omega
        have hk2 : ((k - 1 : Nat) : Int) < k := by omega
        have hk3 : (0 : Int) ≤ ((k - 1 : Nat) : Int) := by omega
        have HI4 : Hid (JI w P w.heap.size B9 (implFold ((n :: ms).drop (k - 1))) ((((((wr.setCell ⟨B9, 0, none⟩ (.int .i64 q1)).setCell ⟨B9, 1, none⟩ (.slice q2 q3 q4)).setCell ⟨B9, 2, none⟩ (.int .i64 q5)).setCell ⟨B9, 3, none⟩ (.int .i64 q6)).setCell ⟨B9, 4, none⟩ (.int .i64 q7)).setCell ⟨B9, 5, none⟩ (.slice q8 q9 q10))) := Lib.hid (by
          have e : (n :: ms).drop (k - 1) = [p] := by
            obtain ⟨hi, h3⟩ := List.getElem?_eq_some_iff.1 hp
            rw [List.drop_eq_getElem_cons hi, h3, List.drop_of_length_le (by rw [HL.out]; omega)]
          rw [e]
          exact JI.store HI.out.up HI.out.b7 hb9 HG9.out HN7.out q1 q2 q3 q4 q5 q6 q7 q8 q9 q10 (HNP.out.ext HI.out.up))
        have x0 := cell_of hb9 0
        have x1 := cell_of hb9 1
        have x2 := cell_of hb9 2
        have x3 := cell_of hb9 3
        have x4 := cell_of hb9 4
        have x5 := cell_of hb9 5
        have xf0 := free_of hb9 0
        have xf1 := free_of hb9 1
        have xf2 := free_of hb9 2
        have xf3 := free_of hb9 3
        have xf4 := free_of hb9 4
        have xf5 := free_of hb9 5
        simp only [List.getElem?_toArray, List.getElem?_cons_zero, List.getElem?_cons_succ] at x0 x1 x2 x3 x4 x5
        clear hup hnp hnr hb9 hkk hkm hp
        go_wp2_with fail
        generalize hW4 : (((((wr.setCell ⟨B9, 0, none⟩ (.int .i64 q1)).setCell ⟨B9, 1, none⟩ (.slice q2 q3 q4)).setCell ⟨B9, 2, none⟩ (.int .i64 q5)).setCell ⟨B9, 3, none⟩ (.int .i64 q6)).setCell ⟨B9, 4, none⟩ (.int .i64 q7)).setCell ⟨B9, 5, none⟩ (.slice q8 q9 q10) = W4 at *
        clear hW4
        go_loopw [11] (fun t11 wx => ∃ j : Nat, j + 1 ≤ k ∧ t11 = .int .i64 ((j : Int) - 1) ∧ Hid (JI w P w.heap.size B9 (implFold ((n :: ms).drop j)) wx)) (fun t11 _ => (intOf t11 + 1).toNat)
        case atStart => exact ⟨k - 1, by omega, by rw [show (k : Int) - 2 = ((k - 1 : Nat) : Int) - 1 by omega], HI4⟩
        case round =>
          clear HI4 c0 c1 c2 c3 c4 c5 x0 x1 x2 x3 x4 x5 xf0 xf1 xf2 xf3 xf4 xf5
          obtain ⟨j, hj, rfl, HIF⟩ := hrel
          cases j with
          | zero =>
            have hneg : ¬ (((0 : Nat) : Int) - 1 ≥ 0) := by omega
            have hneg2 : ¬ ((0 : Int) ≤ ((0 : Nat) : Int) - 1) := by omega
            obtain ⟨z1, z2, z3, z4, z5, z6, z7, z8, z9, z10, hz9, hzn⟩ := HIF.out.st
            have HZN := Lib.hid hzn
            have HZ7 := Lib.hid HIF.out.b7
            have ez0 : ∀ u : Ext wr, u.w.cell? ⟨B9, 0, none⟩ = some (.int .i64 z1) := fun u => u.cell (cell_of hz9 0)
            have ez1 : ∀ u : Ext wr, u.w.cell? ⟨B9, 1, none⟩ = some (.slice z2 z3 z4) := fun u => u.cell (cell_of hz9 1)
            have ez2 : ∀ u : Ext wr, u.w.cell? ⟨B9, 2, none⟩ = some (.int .i64 z5) := fun u => u.cell (cell_of hz9 2)
            have ez3 : ∀ u : Ext wr, u.w.cell? ⟨B9, 3, none⟩ = some (.int .i64 z6) := fun u => u.cell (cell_of hz9 3)
            have ez4 : ∀ u : Ext wr, u.w.cell? ⟨B9, 4, none⟩ = some (.int .i64 z7) := fun u => u.cell (cell_of hz9 4)
            have ez5 : ∀ u : Ext wr, u.w.cell? ⟨B9, 5, none⟩ = some (.slice z8 z9 z10) := fun u => u.cell (cell_of hz9 5)
            clear hz9 hzn
            go_wp2_with fail
            refine wp_region_seg_at [] [] [0, 1, 2] [3] 3 (by kernel_rfl) (by kernel_rfl) (by kernel_rfl) ?_
            refine seg_plain rfl rfl rfl rfl rfl ?_
            intro K' hK'
            go_big_quiet_op
            go_big_quiet_on
            refine seg_plain rfl rfl rfl rfl rfl ?_
            intro K' hK'
            go_big_quiet_op
            go_big_quiet_on
            refine seg_plain rfl rfl rfl rfl rfl ?_
            intro K' hK'
            go_big_quiet_op
            go_big_quiet_on
            intro w20 hg
            have HU20 := Lib.hid (HIF.out.up.trans_ext hg.up)
            have hb20 := hg.up.at HZ7.out (by simp)
            have HB20 := Lib.hid hb20
            have HN20 := Lib.hid (HZN.out.ext hg.up)
            simp only [List.drop_succ_cons, List.drop_zero]
            have x0 := cell_of hb20 0
            have x1 := cell_of hb20 1
            have x2 := cell_of hb20 2
            have x3 := cell_of hb20 3
            have x4 := cell_of hb20 4
            have x5 := cell_of hb20 5
            have xf0 := free_of hb20 0
            have xf1 := free_of hb20 1
            have xf2 := free_of hb20 2
            have xf3 := free_of hb20 3
            have xf4 := free_of hb20 4
            have xf5 := free_of hb20 5
            simp only [List.getElem?_toArray, List.getElem?_cons_zero, List.getElem?_cons_succ] at x0 x1 x2 x3 x4 x5
            have hfin := JI.fin (P := P) HU20.out HB20.out HN20.out
            have HFIN := Lib.hid hfin
            clear hg hb20 hfin ez0 ez1 ez2 ez3 ez4 ez5
            go_wp2_with fail
            have hst := nd_store HB20.out (.int .i64 z1) (.slice z2 z3 z4) (.int .i64 z5) (.int .i64 z6) (.int .i64 z7) (.slice z8 z9 z10)
            have y0 := cell_of hst 0
            have y1 := cell_of hst 1
            have y2 := cell_of hst 2
            have y3 := cell_of hst 3
            have y4 := cell_of hst 4
            have y5 := cell_of hst 5
            simp only [List.getElem?_toArray, List.getElem?_cons_zero, List.getElem?_cons_succ] at y0 y1 y2 y3 y4 y5
            exact bodyPost_ret (v := .tuple #[.string ⟨T.toArray⟩, .agg #[.int .i64 z1, .slice z2 z3 z4, .int .i64 z5, .int .i64 z6, .int .i64 z7, .slice z8 z9 z10]]) (by simp [results, Tryd.results26, go_sem, y0, y1, y2, y3, y4, y5]) rfl ⟨_, by rw [HT.out], by rw [HCH.out]; exact HFIN.out.1, HFIN.out.2⟩
          | succ j =>
            have hjI : ((j + 1 : Nat) : Int) - 1 = (j : Int) := by omega
            rw [hjI]
            have hpos : (j : Int) ≥ 0 := by omega
            have hjk : (j : Int) < k := by omega
            obtain ⟨p, hp⟩ : ∃ p, (n :: ms)[j]? = some p := ⟨_, List.getElem?_eq_getElem (by rw [HL.out]; omega)⟩
            obtain ⟨q1, q2, q3, q4, q5, q6, q7, q8, q9, q10, c0, c1, c2, c3, c4, c5, hnp⟩ := HPT.out j p hp
            have hup := HIF.out.up
            have HNP : Hid (NdV w (JQ w P w.heap.size B9) p (.agg #[.int .i64 q1, .slice q2 q3 q4, .int .i64 q5, .int .i64 q6, .int .i64 q7, .slice q8 q9 q10])) := Lib.hid (hnp.mono (fun b hb hc => Or.inl ⟨hb, hc.lt⟩))
            have HIM : Hid (implFold ((n :: ms).drop j) = .mk 14 [] 0 0 0 [p, implFold ((n :: ms).drop (j + 1))]) := Lib.hid (by
              obtain ⟨hi, h3⟩ := List.getElem?_eq_some_iff.1 hp
              rw [List.drop_eq_getElem_cons hi, h3]
              have hl2 : j + 1 < (n :: ms).length := by rw [HL.out]; omega
              rw [List.drop_eq_getElem_cons hl2]
              rfl)
            obtain ⟨r1, r2, r3, r4, r5, r6, r7, r8, r9, r10, hb9, hnr⟩ := HIF.out.st
            have HNR := Lib.hid hnr
            have HB9r := Lib.hid hb9
            have ec0 := fun u : Ext wr => u.cell ((hup.cell (World.block_lt_of_cell? w _ c0) (by simp)).trans c0)
            have ec1 := fun u : Ext wr => u.cell ((hup.cell (World.block_lt_of_cell? w _ c1) (by simp)).trans c1)
            have ec2 := fun u : Ext wr => u.cell ((hup.cell (World.block_lt_of_cell? w _ c2) (by simp)).trans c2)
            have ec3 := fun u : Ext wr => u.cell ((hup.cell (World.block_lt_of_cell? w _ c3) (by simp)).trans c3)
            have ec4 := fun u : Ext wr => u.cell ((hup.cell (World.block_lt_of_cell? w _ c4) (by simp)).trans c4)
            have ec5 := fun u : Ext wr => u.cell ((hup.cell (World.block_lt_of_cell? w _ c5) (by simp)).trans c5)
            have er0 : ∀ u : Ext wr, u.w.cell? ⟨B9, 0, none⟩ = some (.int .i64 r1) := fun u => u.cell (cell_of hb9 0)
            have er1 : ∀ u : Ext wr, u.w.cell? ⟨B9, 1, none⟩ = some (.slice r2 r3 r4) := fun u => u.cell (cell_of hb9 1)
            have er2 : ∀ u : Ext wr, u.w.cell? ⟨B9, 2, none⟩ = some (.int .i64 r5) := fun u => u.cell (cell_of hb9 2)
            have er3 : ∀ u : Ext wr, u.w.cell? ⟨B9, 3, none⟩ = some (.int .i64 r6) := fun u => u.cell (cell_of hb9 3)
            have er4 : ∀ u : Ext wr, u.w.cell? ⟨B9, 4, none⟩ = some (.int .i64 r7) := fun u => u.cell (cell_of hb9 4)
            have er5 : ∀ u : Ext wr, u.w.cell? ⟨B9, 5, none⟩ = some (.slice r8 r9 r10) := fun u => u.cell (cell_of hb9 5)
            clear hup hnp hnr hb9 hp c0 c1 c2 c3 c4 c5
            go_wp2_with fail
            refine wp_region_seg_at [6] [] [0, 1, 2, 3, 4, 5, 6, 7] [8] 8 (by kernel_rfl) (by kernel_rfl) (by kernel_rfl) ?_
            refine seg_plain rfl rfl rfl rfl rfl ?_
            intro K' hK'
            go_big_quiet_op
            go_big_quiet_on
            refine seg_plain rfl rfl rfl rfl rfl ?_
            intro K' hK'
            go_big_quiet_op
            go_big_quiet_on
            refine seg_plain rfl rfl rfl rfl rfl ?_
            intro K' hK'
            go_big_quiet_op
            go_big_quiet_on
            refine seg_plain rfl rfl rfl rfl rfl ?_
            intro K' hK'
            go_big_quiet_op
            go_big_quiet_on
            refine seg_plain rfl rfl rfl rfl rfl ?_
            intro K' hK'
            go_big_quiet_op
            go_big_quiet_on
            refine seg_plain rfl rfl rfl rfl rfl ?_
            intro K' hK'
            go_big_quiet_op
            go_big_quiet_on
            refine seg_opq (Y := Nat) (fun b => .slice (some ⟨b, 0, none⟩) 2 2) (fun b u => u.heap[b]? = some (.cells #[.int .i64 q1, .slice q2 q3 q4, .int .i64 q5, .int .i64 q6, .int .i64 q7, .slice q8 q9 q10, .int .i64 r1, .slice r2 r3 r4, .int .i64 r5, .int .i64 r6, .int .i64 r7, .slice r8 r9 r10] 54 (0, 0)) ∧ wr.heap.size ≤ b) (fun _ => []) rfl rfl rfl rfl (fun _ _ _ h hu => ⟨hu.at h.1 (by simp), h.2⟩) (fun _ => List.nodup_nil) (fun w' post hu hd hp => (congrArg (opqUpon Tryd.prog post) (show _ = Result.ok (Next.value (.slice (some ⟨w'.heap.size, 0, none⟩) 2 2)) (w'.alloc (.cells #[.int .i64 q1, .slice q2 q3 q4, .int .i64 q5, .int .i64 q6, .int .i64 q7, .slice q8 q9 q10, .int .i64 r1, .slice r2 r3 r4, .int .i64 r5, .int .i64 r6, .int .i64 r7, .slice r8 r9 r10] 54)) from by go_simp)).mpr (hp w'.heap.size _ ((Upto.refl [] w').alloc _) ⟨new_at _ _, hu.size⟩ (fun b hb => by cases hb))) ?_
            intro b6
            simp only [Act.put, List.setIfInBounds_toArray, List.set_cons_zero, List.set_cons_succ]
            refine seg_plain rfl rfl rfl rfl rfl ?_
            intro K' hK'
            go_big_quiet_op
            go_big_quiet_on
            intro w9 hg
            have HU9 := Lib.hid (HIF.out.up.trans_ext hg.up)
            have HB6 := Lib.hid hg.hold.1.1
            have HG6 := Lib.hid hg.hold.1.2
            have HB79 := Lib.hid (hg.up.at HIF.out.b7 (by simp))
            have hb9 := hg.up.at HB9r.out (by simp)
            have HB99 := Lib.hid hb9
            have hb9w := lt_of_heap HB9r.out
            have hb7w := lt_of_heap HIF.out.b7
            have HN : Hid (NdV w9 (JQ w P w.heap.size B9) (.mk 14 [] 0 0 0 [p, implFold ((n :: ms).drop (j + 1))]) (.agg #[.int .i64 14, .slice none 0 0, .int .i64 0, .int .i64 0, .int .i64 0, .slice (some ⟨b6, 0, none⟩) 2 2])) := Lib.hid (NdV.two SlP.nil (HNP.out.ext (HIF.out.up.trans_ext hg.up)) (HNR.out.ext hg.up) (Or.inr ⟨by unfold New; have := HG6.out; have := HIF.out.up.size; omega, by have := HG6.out; omega, by have := HG6.out; omega⟩) HB6.out)
            simp only [List.drop_succ_cons, List.drop_zero]
            have x0 := cell_of hb9 0
            have x1 := cell_of hb9 1
            have x2 := cell_of hb9 2
            have x3 := cell_of hb9 3
            have x4 := cell_of hb9 4
            have x5 := cell_of hb9 5
            have xf0 := free_of hb9 0
            have xf1 := free_of hb9 1
            have xf2 := free_of hb9 2
            have xf3 := free_of hb9 3
            have xf4 := free_of hb9 4
            have xf5 := free_of hb9 5
            simp only [List.getElem?_toArray, List.getElem?_cons_zero, List.getElem?_cons_succ] at x0 x1 x2 x3 x4 x5
            have HI3 : Hid (JI w P w.heap.size B9 (implFold ((n :: ms).drop j)) ((((((w9.setCell ⟨B9, 0, none⟩ (.int .i64 14)).setCell ⟨B9, 1, none⟩ (.slice none 0 0)).setCell ⟨B9, 2, none⟩ (.int .i64 0)).setCell ⟨B9, 3, none⟩ (.int .i64 0)).setCell ⟨B9, 4, none⟩ (.int .i64 0)).setCell ⟨B9, 5, none⟩ (.slice (some ⟨b6, 0, none⟩) 2 2))) := Lib.hid (by
              rw [HIM.out]
              exact JI.store HU9.out HB79.out HB99.out HG9.out HN7.out 14 none 0 0 0 0 0 (some ⟨b6, 0, none⟩) 2 2 HN.out)
            clear hg hb9 ec0 ec1 ec2 ec3 ec4 ec5 er0 er1 er2 er3 er4 er5 hb9w hb7w
            go_wp2_with fail
            go_roundw
            case rel => exact ⟨j, by omega, rfl, HI3⟩
            case measure => first | (simp [intOf]; done) | (simp [intOf]; omega)
      · have h14 : ((12 + (a : Int)) == 14) = false := by rw [beq_eq_false_iff_ne]; omega
        have HCH : Hid (chainF a n ms = foldLeft (12 + a) n ms) := Lib.hid (by unfold chainF; rw [if_neg h2])
        have HIF := HI
        obtain ⟨z1, z2, z3, z4, z5, z6, z7, z8, z9, z10, hz9, hzn⟩ := HIF.out.st
        have HZN := Lib.hid hzn
        have HZ7 := Lib.hid HIF.out.b7
        have ez0 : ∀ u : Ext wr, u.w.cell? ⟨B9, 0, none⟩ = some (.int .i64 z1) := fun u => u.cell (cell_of hz9 0)
        have ez1 : ∀ u : Ext wr, u.w.cell? ⟨B9, 1, none⟩ = some (.slice z2 z3 z4) := fun u => u.cell (cell_of hz9 1)
        have ez2 : ∀ u : Ext wr, u.w.cell? ⟨B9, 2, none⟩ = some (.int .i64 z5) := fun u => u.cell (cell_of hz9 2)
        have ez3 : ∀ u : Ext wr, u.w.cell? ⟨B9, 3, none⟩ = some (.int .i64 z6) := fun u => u.cell (cell_of hz9 3)
        have ez4 : ∀ u : Ext wr, u.w.cell? ⟨B9, 4, none⟩ = some (.int .i64 z7) := fun u => u.cell (cell_of hz9 4)
        have ez5 : ∀ u : Ext wr, u.w.cell? ⟨B9, 5, none⟩ = some (.slice z8 z9 z10) := fun u => u.cell (cell_of hz9 5)
        clear hz9 hzn
        go_wp2_with fail
        refine wp_region_seg_at [] [] [0, 1, 2] [3] 3 (by kernel_rfl) (by kernel_rfl) (by kernel_rfl) ?_
        refine seg_plain rfl rfl rfl rfl rfl ?_
        intro K' hK'
        go_big_quiet_op
        go_big_quiet_on
        refine seg_plain rfl rfl rfl rfl rfl ?_
        intro K' hK'
        go_big_quiet_op
        go_big_quiet_on
        refine seg_plain rfl rfl rfl rfl rfl ?_
        intro K' hK'
        go_big_quiet_op
        go_big_quiet_on
        intro w20 hg
        have HU20 := Lib.hid (HIF.out.up.trans_ext hg.up)
        have hb20 := hg.up.at HZ7.out (by simp)
        have HB20 := Lib.hid hb20
        have HN20 := Lib.hid (HZN.out.ext hg.up)
        simp only [List.drop_succ_cons, List.drop_zero]
        have x0 := cell_of hb20 0
        have x1 := cell_of hb20 1
        have x2 := cell_of hb20 2
        have x3 := cell_of hb20 3
        have x4 := cell_of hb20 4
        have x5 := cell_of hb20 5
        have xf0 := free_of hb20 0
        have xf1 := free_of hb20 1
        have xf2 := free_of hb20 2
        have xf3 := free_of hb20 3
        have xf4 := free_of hb20 4
        have xf5 := free_of hb20 5
        simp only [List.getElem?_toArray, List.getElem?_cons_zero, List.getElem?_cons_succ] at x0 x1 x2 x3 x4 x5
        have hfin := JI.fin (P := P) HU20.out HB20.out HN20.out
        have HFIN := Lib.hid hfin
        clear hg hb20 hfin ez0 ez1 ez2 ez3 ez4 ez5
        go_wp2_with fail
        have hst := nd_store HB20.out (.int .i64 z1) (.slice z2 z3 z4) (.int .i64 z5) (.int .i64 z6) (.int .i64 z7) (.slice z8 z9 z10)
        have y0 := cell_of hst 0
        have y1 := cell_of hst 1
        have y2 := cell_of hst 2
        have y3 := cell_of hst 3
        have y4 := cell_of hst 4
        have y5 := cell_of hst 5
        simp only [List.getElem?_toArray, List.getElem?_cons_zero, List.getElem?_cons_succ] at y0 y1 y2 y3 y4 y5
        exact bodyPost_ret (v := .tuple #[.string ⟨T.toArray⟩, .agg #[.int .i64 z1, .slice z2 z3 z4, .int .i64 z5, .int .i64 z6, .int .i64 z7, .slice z8 z9 z10]]) (by simp [results, Tryd.results26, go_sem, y0, y1, y2, y3, y4, y5]) rfl ⟨_, by rw [HT.out], by rw [HCH.out]; exact HFIN.out.1, HFIN.out.2⟩
end Go.Proofs.YtkhbpebpljdifaaDoor


namespace Go.Proofs.YtkhbpebpljdifaaDoor
open Go.RowKit Go.PL Go.Maps

theorem tok_ok {s : List UInt8} {ts : List Tok} (h : lexT s = .ok ts) (hl : s.length ≤ 281474976710656) (u : World) (he : Env u) : Calls Tryd.prog 13 #[.string ⟨s.toArray⟩] u fun e w' => ∃ v, e = .returned (.tuple #[v, .agg #[.int .i64 0, .int .i64 0], .int .i64 0]) ∧ Toks w' v ts ∧ Upto [] u w' :=
  (tokenize_calls s u he hl).mono fun e w' hr => by
    obtain ⟨hr, hu⟩ := hr
    rcases hr with ⟨ts', v, hl', rfl, hT⟩ | ⟨l, c, n, hl', _⟩
    · rw [h] at hl'
      cases hl'
      exact ⟨v, rfl, hT, hu⟩
    · rw [h] at hl'
      cases hl'
theorem tok_err {s : List UInt8} {l c n : Nat} (h : lexT s = .error (l, c, n)) (hl : s.length ≤ 281474976710656) (li ci ni : Int) (h1 : li = l) (h2 : ci = c) (h3 : ni = n) (u : World) (he : Env u) : Calls Tryd.prog 13 #[.string ⟨s.toArray⟩] u fun e w' => e = .returned (.tuple #[.slice none 0 0, .agg #[.int .i64 li, .int .i64 ci], .int .i64 ni]) ∧ Upto [] u w' :=
  (tokenize_calls s u he hl).mono fun e w' hr => by
    obtain ⟨hr, hu⟩ := hr
    subst h1 h2 h3
    rcases hr with ⟨ts', v, hl', rfl, hT⟩ | ⟨l, c, n, hl', _, rfl⟩
    · rw [h] at hl'
      cases hl'
    · rw [h] at hl'
      cases hl'
      exact ⟨rfl, hu⟩
/-- an error is a range or a format -/
theorem classify_err {r : List UInt8} {n : Nat} (h : classify r = .error n) : n = 2 ∨ n = 3 := by
  cases r with
  | nil => cases h; simp
  | cons b t =>
    simp only [classify] at h
    split at h
    · split at h
      · cases h; simp
      · split at h
        · cases h; simp
        · cases h
    · split at h
      · cases h; simp
      · split at h
        · cases h
        · split at h
          · cases h; simp
          · cases h
theorem lexT_err {s : List UInt8} {l c n : Nat} (h : lexT s = .error (l, c, n)) : n = 2 ∨ n = 3 := by
  unfold lexT at h
  split at h
  · cases h; simp
  · refine lex_ind (M := fun s l c R => ∀ l' c' n', R = .error (l', c', n') → n' = 2 ∨ n' = 3) ?_ ?_ ?_ ?_ ?_ ?_ ?_ s.length s (Nat.le_refl _) 1 1 l c n h
    · intro l c l' c' n' h; cases h
    · intro b s l c _ _ ih; exact ih
    · intro b s l c _ _ ih; exact ih
    · intro b s l c _ ih l' c' n' h
      cases hR : lexS s l (c + 1) with
      | error e =>
        rw [hR] at h ih
        cases h
        exact ih _ _ _ rfl
      | ok ts => rw [hR] at h; cases h
    · intro r s l c k v _ _ _ _ ih l' c' n' h
      cases hR : lexS s l (c + r.length) with
      | error e =>
        rw [hR] at h ih
        cases h
        exact ih _ _ _ rfl
      | ok ts => rw [hR] at h; cases h
    · intro r s l c e _ _ _ hc l' c' n' h
      cases h
      exact classify_err hc
    · intro b s l c _ _ _ l' c' n' h
      cases h
      simp
end Go.Proofs.YtkhbpebpljdifaaDoor


namespace Go.Proofs.YtkhbpebpljdifaaDoor
open Go.RowKit Go.PL Go.Maps

theorem conv_digit (wr : World) (m : Nat) : (convert 38 9 (.slice (some ⟨wr.heap.size, 0, none⟩) 1 1)).run Tryd.prog (wr.alloc (.cells #[.int .u8 (48 + (m : Int) % 10)] 5)) = .ok (.string ⟨[UInt8.ofNat (48 + m % 10)].toArray⟩) (wr.alloc (.cells #[.int .u8 (48 + (m : Int) % 10)] 5)) := by
  refine conv_str Tryd.underlying38 Tryd.underlying5 Tryd.underlying9 (Or.inr ⟨wr.heap.size, 0, 1, rfl, fun j u hj => ?_⟩)
  match j, hj with
  | 0, hj =>
    simp only [List.map_cons, List.getElem?_cons_zero, Option.some.injEq] at hj
    rw [← hj, cell_of (new_at _ _)]
    simp only [bv, digit_nat]
    rfl
  | j + 1, hj => simp at hj

end Go.Proofs.YtkhbpebpljdifaaDoor


namespace Go.Proofs.YtkhbpebpljdifaaDoor
open Go.RowKit Go.PL Go.Maps

theorem conv_dig (wr : World) (k : Nat) (hk : k < 10) : (convert 38 9 (.slice (some ⟨wr.heap.size, 0, none⟩) 1 1)).run Tryd.prog (wr.alloc (.cells #[.int .u8 (48 + (k : Int))] 5)) = .ok (.string ⟨#[UInt8.ofNat (48 + k)]⟩) (wr.alloc (.cells #[.int .u8 (48 + (k : Int))] 5)) := by
  have h := conv_digit wr k
  rw [Nat.mod_eq_of_lt hk, show (k : Int) % 10 = k by omega] at h
  exact h
set_option maxRecDepth 100000 in
set_option maxHeartbeats 3200000 in
theorem digits1_calls (k : Nat) (hk : k < 10) (w : World) : Calls Tryd.prog 70 #[.int .i64 k] w fun e w' => e = .returned (.string ⟨#[UInt8.ofNat (48 + k)]⟩) ∧ Upto [] w w' := by
  have hcv := conv_dig w k hk
  have q0 : (k : Int) < 10 := by omega
  have q1 : (0 : Int) ≤ k := by omega
  have HU := Lib.hid ((Upto.refl [] w).alloc (.cells #[.int .u8 (48 + (k : Int))] 5))
  go_enter Tryd.func70, Tryd.ntmps70
  go_wp2_with fail
  go_ret
  exact ⟨by rw [show UInt8.ofNat (48 + k) = 48 + UInt8.ofNat k from by simp [UInt8.ofNat_add]]; rfl, HU.out⟩

set_option maxRecDepth 100000 in
set_option maxHeartbeats 6400000 in
theorem full_is (w : World) (l1 : Option Addr) (n2 n3 l2 l3 : Nat) (so nn mm : Int) (g og : Nat) (x D : List UInt8) (hn2 : 1 ≤ n2) (hlx : x.length ≤ 1000000000000) (hD : D.length ≤ 100) (hx : w.cell? ⟨g, og, none⟩ = some (sV x)) (hd : ∀ u, Calls Tryd.prog 70 #[.int .i64 nn] u fun e w' => e = .returned (.string ⟨D.toArray⟩) ∧ Upto [] u w') :
    Calls Tryd.prog 49 #[.agg #[.int .i64 7, .slice (some ⟨g, og, none⟩) n2 n3, .int .i64 so, .int .i64 nn, .int .i64 mm, .slice l1 l2 l3]] w fun e w' => e = .returned (.string ⟨(x ++ [32, 105, 115, 32] ++ D).toArray⟩) ∧ Upto [] w w' := by
  have hu2 : Upto [] w ((w.alloc (.cells #[.int .i64 7, .slice (some ⟨g, og, none⟩) n2 n3, .int .i64 so, .int .i64 nn, .int .i64 mm, .slice l1 l2 l3] 54)).alloc (.cells #[.string ⟨#[116, 114, 117, 101]⟩, .string ⟨#[102, 97, 108, 115, 101]⟩, .string ⟨#[61]⟩, .string ⟨#[105, 110]⟩, .string ⟨#[115, 117, 98]⟩, .string ⟨#[97, 100, 106]⟩, .string ⟨#[111, 110]⟩, .string ⟨#[]⟩, .string ⟨#[]⟩, .string ⟨#[]⟩, .string ⟨#[]⟩, .string ⟨#[110, 111, 116]⟩, .string ⟨#[97, 110, 100]⟩, .string ⟨#[111, 114]⟩, .string ⟨#[105, 109, 112, 108, 105, 101, 115]⟩, .string ⟨#[105, 102, 102]⟩, .string ⟨#[115, 111, 109, 101]⟩, .string ⟨#[101, 118, 101, 114, 121]⟩] 9)) := ((Upto.refl [] w).alloc _).alloc _
  have HU2 := Lib.hid hu2
  have hb1 := alloc_old (new_at w (.cells #[.int .i64 7, .slice (some ⟨g, og, none⟩) n2 n3, .int .i64 so, .int .i64 nn, .int .i64 mm, .slice l1 l2 l3] 54)) (.cells #[.string ⟨#[116, 114, 117, 101]⟩, .string ⟨#[102, 97, 108, 115, 101]⟩, .string ⟨#[61]⟩, .string ⟨#[105, 110]⟩, .string ⟨#[115, 117, 98]⟩, .string ⟨#[97, 100, 106]⟩, .string ⟨#[111, 110]⟩, .string ⟨#[]⟩, .string ⟨#[]⟩, .string ⟨#[]⟩, .string ⟨#[]⟩, .string ⟨#[110, 111, 116]⟩, .string ⟨#[97, 110, 100]⟩, .string ⟨#[111, 114]⟩, .string ⟨#[105, 109, 112, 108, 105, 101, 115]⟩, .string ⟨#[105, 102, 102]⟩, .string ⟨#[115, 111, 109, 101]⟩, .string ⟨#[101, 118, 101, 114, 121]⟩] 9)
  have HD := Lib.hid hd
  have xa0 := cell_of hb1 0
  have xa1 := cell_of hb1 1
  have xa2 := cell_of hb1 2
  have xa3 := cell_of hb1 3
  have xa4 := cell_of hb1 4
  have xa5 := cell_of hb1 5
  simp only [List.getElem?_toArray, List.getElem?_cons_zero, List.getElem?_cons_succ] at xa0 xa1 xa2 xa3 xa4 xa5
  have ya0 := free_of hb1 0
  have ya1 := free_of hb1 1
  have ya2 := free_of hb1 2
  have ya3 := free_of hb1 3
  have ya4 := free_of hb1 4
  have ya5 := free_of hb1 5
  have e0 : ∀ u : Ext ((w.alloc (.cells #[.int .i64 7, .slice (some ⟨g, og, none⟩) n2 n3, .int .i64 so, .int .i64 nn, .int .i64 mm, .slice l1 l2 l3] 54)).alloc (.cells #[.string ⟨#[116, 114, 117, 101]⟩, .string ⟨#[102, 97, 108, 115, 101]⟩, .string ⟨#[61]⟩, .string ⟨#[105, 110]⟩, .string ⟨#[115, 117, 98]⟩, .string ⟨#[97, 100, 106]⟩, .string ⟨#[111, 110]⟩, .string ⟨#[]⟩, .string ⟨#[]⟩, .string ⟨#[]⟩, .string ⟨#[]⟩, .string ⟨#[110, 111, 116]⟩, .string ⟨#[97, 110, 100]⟩, .string ⟨#[111, 114]⟩, .string ⟨#[105, 109, 112, 108, 105, 101, 115]⟩, .string ⟨#[105, 102, 102]⟩, .string ⟨#[115, 111, 109, 101]⟩, .string ⟨#[101, 118, 101, 114, 121]⟩] 9)), u.w.cell? ⟨w.heap.size, 0, none⟩ = some (.int .i64 7) := fun u => u.cell (cell_of hb1 0)
  have e1 : ∀ u : Ext ((w.alloc (.cells #[.int .i64 7, .slice (some ⟨g, og, none⟩) n2 n3, .int .i64 so, .int .i64 nn, .int .i64 mm, .slice l1 l2 l3] 54)).alloc (.cells #[.string ⟨#[116, 114, 117, 101]⟩, .string ⟨#[102, 97, 108, 115, 101]⟩, .string ⟨#[61]⟩, .string ⟨#[105, 110]⟩, .string ⟨#[115, 117, 98]⟩, .string ⟨#[97, 100, 106]⟩, .string ⟨#[111, 110]⟩, .string ⟨#[]⟩, .string ⟨#[]⟩, .string ⟨#[]⟩, .string ⟨#[]⟩, .string ⟨#[110, 111, 116]⟩, .string ⟨#[97, 110, 100]⟩, .string ⟨#[111, 114]⟩, .string ⟨#[105, 109, 112, 108, 105, 101, 115]⟩, .string ⟨#[105, 102, 102]⟩, .string ⟨#[115, 111, 109, 101]⟩, .string ⟨#[101, 118, 101, 114, 121]⟩] 9)), u.w.cell? ⟨w.heap.size, 1, none⟩ = some (.slice (some ⟨g, og, none⟩) n2 n3) := fun u => u.cell (cell_of hb1 1)
  have e3 : ∀ u : Ext ((w.alloc (.cells #[.int .i64 7, .slice (some ⟨g, og, none⟩) n2 n3, .int .i64 so, .int .i64 nn, .int .i64 mm, .slice l1 l2 l3] 54)).alloc (.cells #[.string ⟨#[116, 114, 117, 101]⟩, .string ⟨#[102, 97, 108, 115, 101]⟩, .string ⟨#[61]⟩, .string ⟨#[105, 110]⟩, .string ⟨#[115, 117, 98]⟩, .string ⟨#[97, 100, 106]⟩, .string ⟨#[111, 110]⟩, .string ⟨#[]⟩, .string ⟨#[]⟩, .string ⟨#[]⟩, .string ⟨#[]⟩, .string ⟨#[110, 111, 116]⟩, .string ⟨#[97, 110, 100]⟩, .string ⟨#[111, 114]⟩, .string ⟨#[105, 109, 112, 108, 105, 101, 115]⟩, .string ⟨#[105, 102, 102]⟩, .string ⟨#[115, 111, 109, 101]⟩, .string ⟨#[101, 118, 101, 114, 121]⟩] 9)), u.w.cell? ⟨w.heap.size, 3, none⟩ = some (.int .i64 nn) := fun u => u.cell (cell_of hb1 3)
  have ex : ∀ u : Ext ((w.alloc (.cells #[.int .i64 7, .slice (some ⟨g, og, none⟩) n2 n3, .int .i64 so, .int .i64 nn, .int .i64 mm, .slice l1 l2 l3] 54)).alloc (.cells #[.string ⟨#[116, 114, 117, 101]⟩, .string ⟨#[102, 97, 108, 115, 101]⟩, .string ⟨#[61]⟩, .string ⟨#[105, 110]⟩, .string ⟨#[115, 117, 98]⟩, .string ⟨#[97, 100, 106]⟩, .string ⟨#[111, 110]⟩, .string ⟨#[]⟩, .string ⟨#[]⟩, .string ⟨#[]⟩, .string ⟨#[]⟩, .string ⟨#[110, 111, 116]⟩, .string ⟨#[97, 110, 100]⟩, .string ⟨#[111, 114]⟩, .string ⟨#[105, 109, 112, 108, 105, 101, 115]⟩, .string ⟨#[105, 102, 102]⟩, .string ⟨#[115, 111, 109, 101]⟩, .string ⟨#[101, 118, 101, 114, 121]⟩] 9)), u.w.cell? ⟨g, og, none⟩ = some (.string ⟨x.toArray⟩) := fun u => u.cell ((hu2.cell (p := ⟨g, og, none⟩) (World.block_lt_of_cell? w _ hx) (by simp)).trans hx)
  have q0 : (0 : Int) < n2 := by omega
  have sm0 : x.length + 4 ≤ 9223372036854775807 := by omega
  have sm1 : x.length + 4 + D.length ≤ 9223372036854775807 := by omega
  clear hu2 hb1 hx hlx hD hd
  go_enter Tryd.func49, Tryd.ntmps49
  go_wp2_with fail
  refine wp_region_seg_all [7] [] [0, 1, 2, 3, 4, 5, 6, 7, 8, 9] (by kernel_rfl) (by kernel_rfl) ?_
  refine seg_plain rfl rfl rfl rfl rfl ?_
  intro K' hK'
  go_big_quiet_op
  go_big_quiet_on
  refine seg_plain rfl rfl rfl rfl rfl ?_
  intro K' hK'
  go_big_quiet_op
  go_big_quiet_on
  refine seg_plain rfl rfl rfl rfl rfl ?_
  intro K' hK'
  go_big_quiet_op
  go_big_quiet_on
  refine seg_plain rfl rfl rfl rfl rfl ?_
  intro K' hK'
  go_big_quiet_op
  go_big_quiet_on
  refine seg_plain rfl rfl rfl rfl rfl ?_
  intro K' hK'
  go_big_quiet_op
  go_big_quiet_on
  refine seg_plain rfl rfl rfl rfl rfl ?_
  intro K' hK'
  go_big_quiet_op
  go_big_quiet_on
  refine seg_plain rfl rfl rfl rfl rfl ?_
  intro K' hK'
  go_big_quiet_op
  go_big_quiet_on
  refine seg_call rfl rfl rfl rfl (fun w => by go_simp) (fun w hu hd => HD.out w) ?_
  simp only [Act.put, List.setIfInBounds_toArray, List.set_cons_zero, List.set_cons_succ]
  refine seg_plain rfl rfl rfl rfl rfl ?_
  intro K' hK'
  go_big_quiet_op
  go_big_quiet_on
  refine seg_plain rfl rfl rfl rfl rfl ?_
  intro K' hK'
  go_big_quiet_op
  go_big_quiet_on
  intro w9 hg
  have HU3 := Lib.hid (HU2.out.trans_ext hg.up)
  clear hg e0 e1 e3 ex
  go_wp2_with fail
  go_ret
  exact ⟨congrArg (fun z => Ending.returned (.string z)) (show ByteArray.mk x.toArray ++ ByteArray.mk [32, 105, 115, 32].toArray ++ ByteArray.mk D.toArray = ⟨(x ++ [32, 105, 115, 32] ++ D).toArray⟩ by simp only [ByteArray.mk_append_mk]), HU3.out⟩
end Go.Proofs.YtkhbpebpljdifaaDoor

