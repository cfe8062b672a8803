/- bignat's Mul: the walk. -/
import Derived.Test.YtifellalnojomaaDoorMulLaw
import Derived.Test.YtifellalnojomaaDoorAdd
namespace Go.Proofs.YtifellalnojomaaDoor
open Go.RowKit Go.PL Go.Maps

/-- the row that Mul fills -/
structure MulM (w : World) (g n : Nat) (out : List Nat) (wr : World) : Prop where
  blk : wr.heap[g]? = some (.cells (out.map uv).toArray 49 (0, 0))
  len : out.length = n
  up : Upto [] w wr
theorem MulM.cell {w wr : World} {g n k : Nat} {out : List Nat} (h : MulM w g n out wr) (hk : k < n) : wr.cell? ⟨g, k, none⟩ = some (.int .u32 (out.getD k 0 : Nat)) := by
  rw [cell_of h.blk]
  have hl := h.len
  have hx : out[k]? = some out[k] := List.getElem?_eq_getElem (by omega)
  rw [List.getElem?_toArray, List.getElem?_map, List.getD_eq_getElem?_getD, hx]
  rfl
theorem MulM.set {w wr : World} {g n : Nat} {out : List Nat} (h : MulM w g n out wr) (hg : w.heap.size ≤ g) (k v : Nat) : MulM w g n (out.set k v) (wr.setCell ⟨g, k, none⟩ (.int .u32 (v : Int))) := by
  refine ⟨?_, by rw [List.length_set]; exact h.len, h.up.setCell (Or.inr hg) _⟩
  rw [set_same h.blk, List.setIfInBounds_toArray, List.map_set]
  rfl

set_option maxRecDepth 100000 in
set_option maxHeartbeats 3000000 in
theorem mulRow_calls (a b : List Nat) (va vb : Option Addr) (ca cb : Nat) (w : World) (ha : SlC w (.slice va a.length ca) (a.map uv)) (hb : SlC w (.slice vb b.length cb) (b.map uv)) (hla : a.length ≤ 100000000000) (hlb : b.length ≤ 100000000000) (hwa : ∀ x ∈ a, x < 4294967296) (hwb : ∀ x ∈ b, x < 4294967296) :
    Calls Tryd.prog 47 #[.agg #[.slice va a.length ca], .agg #[.slice vb b.length cb]] w fun e w' => ∃ g vc, e = .returned (.agg #[.slice (some ⟨g, 0, none⟩) (W32 (valL a * valL b)).length vc]) ∧ NumS w' (some ⟨g, 0, none⟩) vc (valL a * valL b) ∧ Upto [] w w' := by
  obtain ⟨i0, hi0, hz0, hz1, hz2⟩ := info_parts infoW
  obtain ⟨w0, hw0⟩ : ∃ w0, w0 = (((w.alloc (.cells #[.slice va a.length ca] 45)).alloc (.cells #[.slice vb b.length cb] 45)).alloc (.cells #[.slice none 0 0] 45)) := ⟨_, rfl⟩
  have hup0 : Upto [] w w0 := by rw [hw0]; exact (((Upto.refl [] w).alloc _).alloc _).alloc _
  have hs0 : w0.heap.size = w.heap.size + 1 + 1 + 1 := by rw [hw0]; simp
  have b0 : w0.heap[w.heap.size]? = some (.cells #[.slice va a.length ca] 45 (0, 0)) := by rw [hw0]; exact alloc_old (alloc_old (new_at w _) _) _
  have b1 : w0.heap[w.heap.size + 1]? = some (.cells #[.slice vb b.length cb] 45 (0, 0)) := by rw [hw0]; exact alloc_old (new_at1 w _ _) _
  have b2 : w0.heap[w.heap.size + 1 + 1]? = some (.cells #[.slice none 0 0] 45 (0, 0)) := by rw [hw0]; exact new_at2 w _ _ _
  have hmk := run_make (P := Tryd.prog) w0 43 49 i0 (.int .u32 0) Tryd.underlying43 hi0 hz0 .i64 .i64 ((a.length : Int) + b.length) ((a.length : Int) + b.length) (by omega) (Int.le_refl _) (by rw [hz2]; omega) (by omega)
  rw [show ((a.length : Int) + b.length).toNat = a.length + b.length by omega, hz1, Nat.mul_one] at hmk
  obtain ⟨w1, hw1⟩ : ∃ w1, w1 = w0.alloc (.cells (madeCells (Value.int IntKind.u32 0).cells (a.length + b.length)) 49) := ⟨_, rfl⟩
  have hM0 : MulM w w0.heap.size (a.length + b.length) (List.replicate (a.length + b.length) 0) w1 := by
    refine ⟨?_, by simp, by rw [hw1]; exact hup0.alloc _⟩
    rw [hw1, new_at, show (Value.int IntKind.u32 0).cells = #[.int .u32 0] from rfl]
    congr 2
    rw [← Array.toList_inj, toList_madeCells_one, List.map_replicate]
    rfl
  have q0 : w1.cell? ⟨w.heap.size, 0, none⟩ = some (.slice va a.length ca) := by rw [hw1]; exact cell_of (alloc_old b0 _) 0
  have c1 : w1.heap[w.heap.size + 1]? = some (.cells #[.slice vb b.length cb] 45 (0, 0)) := by rw [hw1]; exact alloc_old b1 _
  have c2 : w1.heap[w.heap.size + 1 + 1]? = some (.cells #[.slice none 0 0] 45 (0, 0)) := by rw [hw1]; exact alloc_old b2 _
  rw [← hw1] at hmk
  have hgw : w.heap.size ≤ w0.heap.size := hup0.size
  have hg1 : w0.heap.size ≠ w.heap.size + 1 := by omega
  have hg2 : w0.heap.size ≠ w.heap.size + 1 + 1 := by omega
  clear hw1 b0 b1 b2 hup0 hz2 hz1 hz0 hi0 hs0
  generalize hg : w0.heap.size = g at *
  rw [hw0] at hmk
  clear hw0 hg
  generalize hsz : w.heap.size = sz at *
  go_enter Tryd.func47, Tryd.ntmps47
  go_wp2_with fail
  have HM := Lib.hid hmk
  clear hmk q0
  go_loopw [23] (fun k wr => ∃ (i : Nat) (out : List Nat), i ≤ a.length ∧ k = .int .i64 i ∧ MulM w g (a.length + b.length) out wr ∧ wr.heap[sz + 1]? = some (.cells #[.slice vb b.length cb] 45 (0, 0)) ∧ wr.heap[sz + 1 + 1]? = some (.cells #[.slice none 0 0] 45 (0, 0)) ∧ MulJ (valL (a.take i) * valL b) 0 b i 0 out 0) (fun k _ => a.length - (intOf k).toNat)
  case atStart => exact ⟨0, _, Nat.zero_le _, rfl, hM0, c1, c2, by simpa [valL] using MulJ.start b (a.length + b.length)⟩
  case round =>
    obtain ⟨i, out, hi, rfl, hM, d1, d2, hJ⟩ := hrel
    clear hM0 c1 c2 HM
    rcases Nat.lt_or_ge i a.length with hlt | hge
    · have hai : a[i]? = some (a.getD i 0) := by rw [List.getD_eq_getElem?_getD, List.getElem?_eq_getElem hlt]; rfl
      have hxl := getD_lt hwa i
      rcases hb.ext hM.up with hb0
      have hac : ∃ ga oa, va = some ⟨ga, oa, none⟩ ∧ wr.cell? ⟨ga, oa + i, none⟩ = some (.int .u32 (a.getD i 0 : Nat)) := by
        rcases ha.ext hM.up with ⟨h0, _⟩ | ⟨ga, oa, c, hs, hc⟩
        · have : a = [] := by simpa using h0
          subst this
          simp at hlt
        · rw [Value.slice.injEq] at hs
          exact ⟨ga, oa, hs.1, hc i (uv (a.getD i 0)) (by rw [List.getElem?_map, hai]; rfl)⟩
      obtain ⟨ga, oa, rfl, hac⟩ := hac
      have q1 := cell_of d1 0
      simp at q1
      have hmt := mul_take a b i
      have HMT := Lib.hid hmt
      clear hmt hai
      generalize hV : valL (a.take i) * valL b = V at *
      generalize hx : a.getD i 0 = x at *
      have hi' : (i : Int) < a.length := by omega
      have hJ' := Lib.hid (hJ.next (y := x))
      clear hJ hV
      go_wp2_with fail
      clear hi' hac q1
      go_loopw [8, 31] (fun cv' k wr => ∃ (j c : Nat) (out : List Nat), j ≤ b.length ∧ k = .int .i64 j ∧ cv' = .int .u64 c ∧ MulM w g (a.length + b.length) out wr ∧ wr.heap[sz + 1]? = some (.cells #[.slice vb b.length cb] 45 (0, 0)) ∧ wr.heap[sz + 1 + 1]? = some (.cells #[.slice none 0 0] 45 (0, 0)) ∧ MulJ V x b i j out c) (fun _ k _ => b.length - (intOf k).toNat)
      case atStart => exact ⟨0, 0, out, Nat.zero_le _, rfl, rfl, hM, d1, d2, hJ'.out⟩
      case round =>
        clear hM d1 d2 hJ' hb0
        obtain ⟨j, c, out2, hj, rfl, rfl, hM, d1, d2, hJ2⟩ := hrel
        rcases Nat.lt_or_ge j b.length with hlt2 | hge2
        · have hbj : b[j]? = some (b.getD j 0) := by rw [List.getD_eq_getElem?_getD, List.getElem?_eq_getElem hlt2]; rfl
          have hyl := getD_lt hwb j
          have hbc : ∃ gb ob, vb = some ⟨gb, ob, none⟩ ∧ wr.cell? ⟨gb, ob + j, none⟩ = some (.int .u32 (b.getD j 0 : Nat)) := by
            rcases hb.ext hM.up with ⟨h0, _⟩ | ⟨gb, ob, c, hs, hc⟩
            · have : b = [] := by simpa using h0
              subst this
              simp at hlt2
            · rw [Value.slice.injEq] at hs
              exact ⟨gb, ob, hs.1, hc j (uv (b.getD j 0)) (by rw [List.getElem?_map, hbj]; rfl)⟩
          obtain ⟨gb, ob, rfl, hbc⟩ := hbc
          have hoc := hM.cell (k := i + j) (by omega)
          have hof := free_of hM.blk (i + j)
          have hol := getD_lt hJ2.lt (i + j)
          have hcl := hJ2.cy
          have hbd := MulJ.bound hxl hyl hol hcl
          have hset := Lib.hid (hM.set (by rw [hsz]; exact hgw) (i + j) ((x * b.getD j 0 + out2.getD (i + j) 0 + c) % 4294967296))
          have hstep := Lib.hid (hJ2.step hlt2 hxl hwb (by rw [hM.len]; omega))
          have hoth1 := Lib.hid (fun v : Value => set_other (w := wr) (p := g) d1 (by omega) (i + j) v)
          have hoth2 := Lib.hid (fun v : Value => set_other (w := wr) (p := g) d2 (by omega) (i + j) v)
          generalize b.getD j 0 = y at *
          generalize out2.getD (i + j) 0 = o at *
          have hm0 : (0 : Int) ≤ (x : Int) * y := by have := Int.natCast_nonneg (x * y); rwa [Int.natCast_mul] at this
          have hm1 : (x : Int) * y ≤ 18446744065119617025 := by have := Int.ofNat_le.2 hbd.1; simpa [Int.natCast_mul] using this
          have hj' : (j : Int) < b.length := by omega
          have hij : (i : Int) + j < a.length + b.length := by omega
          clear hM d1 d2 hJ2 hbj hbd
          have E1 := Lib.hid (cast_mod x y o c)
          have E2 := Lib.hid (cast_div x y o c)
          go_wp2_with fail
          go_roundw
          case rel =>
            rw [E1.out, E2.out]
            exact ⟨j + 1, _, _, by omega, by simp, rfl, hset.out, hoth1.out _, hoth2.out _, hstep.out⟩
          case measure => simp [intOf]; omega
        · obtain rfl : j = b.length := by omega
          have hlen := hM.len
          have hol := hM.cell (k := i + b.length) (by omega)
          have hof := free_of hM.blk (i + b.length)
          have hcl := hJ2.cy
          have hset := Lib.hid (hM.set (by rw [hsz]; exact hgw) (i + b.length) c)
          have hstep := Lib.hid (hJ2.last (by omega))
          have hoth1 := Lib.hid (fun v : Value => set_other (w := wr) (p := g) d1 (by omega) (i + b.length) v)
          have hoth2 := Lib.hid (fun v : Value => set_other (w := wr) (p := g) d2 (by omega) (i + b.length) v)
          have q1 := cell_of d1 0
          simp at q1
          have hib : (i : Int) + b.length < a.length + b.length := by omega
          clear hM d1 d2 hJ2 hlen
          go_wp2_with fail
          go_roundw
          case rel =>
            exact ⟨i + 1, _, by omega, by simp, hset.out, hoth1.out _, hoth2.out _, by rw [← HMT.out]; exact hstep.out⟩
          case measure => simp [intOf]; omega
    · obtain rfl : i = a.length := by omega
      have hval := hJ.fin
      rw [List.take_of_length_le (Nat.le_refl _)] at hval
      have hlt := hJ.lt
      have hlen := hM.len
      have hrow : wr.ownsRow 0 49 1 (.slice (some ⟨g, 0, none⟩) out.length (a.length + b.length)) out.length (out.map uv) :=
        ⟨by simp, .inr ⟨g, a.length + b.length, (out.map uv).toArray, rfl, Nat.zero_le _, hM.blk, by omega, by unfold maxLen; omega, by simp [hlen], by rw [List.take_of_length_le (by simp)]⟩⟩
      obtain ⟨hcap, hmaxc, hcell, -⟩ := row_facts hrow d2
      have htr := trim_calls g 0 (a.length + b.length) (out.map fun x : Nat => (x : Int)) wr (fun j z hz => by
        rw [List.getElem?_map] at hz
        cases hLj : out[j]? with
        | none => rw [hLj] at hz; cases hz
        | some u =>
          rw [hLj] at hz
          simp at hz
          subst hz
          exact hcell j u hLj) (by simpa using hcap) hmaxc
      rw [List.length_map, trim_len out hlt, hval, hlen] at htr
      have hnum := num_of_row hrow hlt
      rw [hval] at hnum
      have HT := Lib.hid htr
      have hup := hM.up
      clear htr hrow hcell hM hJ hval d1
      go_wp2_with fail
      refine HT.out.mono ?_
      rintro e w4 ⟨rfl, hu4⟩
      have c3 := hu4.at d2 (by simp)
      have f3 := free_of c3 0
      have q3 := cell_of c3 0
      simp at q3
      have hup4 := hup.trans_ext hu4
      have hnum4 := hnum.ext hu4
      clear HT hu4 c3 hnum d2
      go_wp2
      refine bodyPost_ret (v := .agg #[.slice (some ⟨g, 0, none⟩) (W32 (valL a * valL b)).length (a.length + b.length)]) (by simp [results, Tryd.results47, go_sem, q3]) rfl ⟨g, _, rfl, ?_, hup4.setCell (Or.inr (by rw [hsz]; simp; omega)) _⟩
      refine SlC.upto hnum4 ((Upto.refl [sz + 1 + 1] w4).setCell (Or.inl (by simp)) _) ?_
      intro g' o' n' c' hs _
      rw [Value.slice.injEq] at hs
      obtain ⟨hs, -, -⟩ := hs
      cases hs
      simpa using hg2
end Go.Proofs.YtifellalnojomaaDoor
