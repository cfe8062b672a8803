/- The pool of slices: Clone, Equal. -/
import Derived.Test.YtffnkjlobflhcaaDoorSlices2
import Derived.Test.YtffnkjlobflhcaaDoorCloneP
import Derived.Test.YtffnkjlobflhcaaDoorExt
namespace Go.Proofs.YtffnkjlobflhcaaDoor
open Go.RowKit Go.PL Go.Maps

/-- a pool of slices that is being filled: the keys ks, the lists xs -/
structure SlP (w : World) (l room : Nat) (ks : List ByteArray) (xs : List (List Int)) (S E : List Nat) (p : Nat) (lv : Value) (SP : List Nat) (ls : List Value) : Prop where
  blk : w.heap[l]? = some (.cells #[.pointer (some ⟨p, 0, none⟩), lv] 83 (0, 0))
  pool : PoolX w p room ks SP
  row : w.ownsRow 0 30 1 lv xs.length ls
  elems : ∀ (i : Nat) (x : List Int) (v : Value), xs[i]? = some x → ls[i]? = some v → w.ownsRow 0 3 1 v x.length (x.map iv)
  foot : S = l :: lv.ownBlock.toList ++ SP
  efoot : E = ls.flatMap (fun v => v.ownBlock.toList)
  apart : l ∉ SP ∧ (∀ g, lv.ownBlock = some g → g ∉ SP) ∧ ∀ g ∈ E, g ∉ S
  nums : ∀ x ∈ xs, (∀ n ∈ x, I64 n) ∧ x.length ≤ 1048576
theorem SlP.len {w : World} {l room : Nat} {ks : List ByteArray} {xs : List (List Int)} {S E : List Nat} {p : Nat} {lv : Value} {SP : List Nat} {ls : List Value} (h : SlP w l room ks xs S E p lv SP ls) : ls.length = xs.length := by
  have := h.row.1
  simpa using this
theorem SlP.done {w : World} {l room : Nat} {xs : List (List Int)} {S E : List Nat} {p : Nat} {lv : Value} {SP : List Nat} {ls : List Value} (h : SlP w l room (xs.map keyB) xs S E p lv SP ls) : SlX w l room xs S E :=
  ⟨p, lv, SP, ls, h.blk, h.pool, h.row, h.elems, h.foot, h.efoot, h.apart, h.nums⟩

theorem SlP.push {w w3 w4 : World} {l room : Nat} {ks : List ByteArray} {xs : List (List Int)} {S E : List Nat} {p : Nat} {lv : Value} {SP : List Nat} {ls : List Value} {x : List Int} {la ra qa : Option Addr} {lc rc qc : Nat}
    (h : SlP w l room ks xs S E p lv SP ls) (hx : ∀ n ∈ x, I64 n) (hl : x.length ≤ 1048576) (hlv : lv = .slice la xs.length lc)
    (hg3 : Grew w.drew w3 3 1 (.slice none 0 0) (.slice ra x.length rc) x.length (x.map iv)) (hb4 : w4.heap[l]? = some (.cells #[.pointer (some ⟨p, 0, none⟩), lv] 83 (0, 0)))
    (hg4 : Grew (w3.alloc (.cells #[.slice ra x.length rc] 30)) w4 30 1 (.slice la xs.length lc) (.slice qa (xs.length + 1) qc) (xs.length + 1) (ls ++ [.slice ra x.length rc])) :
    ∃ S' E', SlP (w4.setCell ⟨l, 1, none⟩ (.slice qa (xs.length + 1) qc)) l room ks (xs ++ [x]) S' E' p (.slice qa (xs.length + 1) qc) SP (ls ++ [.slice ra x.length rc]) ∧ Within w S S' ∧ Within w E E' ∧ Upto S w (w4.setCell ⟨l, 1, none⟩ (.slice qa (xs.length + 1) qc)) := by
  subst hlv
  have z3 : w.heap.size ≤ w3.heap.size := hg3.up.size
  have z4 : w3.heap.size + 1 ≤ w4.heap.size := by have := hg4.up.size; simpa using this
  have hlw := lt_of_heap h.blk
  have hrow_lt : ∀ g, (Value.slice la xs.length lc).ownBlock = some g → g < w.heap.size := fun g hg => by
    obtain ⟨cur, hh⟩ := ownsRow_block h.row hg
    exact lt_of_heap hh
  have hE_lt : ∀ g ∈ E, g < w.heap.size := fun g hg => by
    rw [h.efoot] at hg
    obtain ⟨v, hv, hm⟩ := List.mem_flatMap.1 hg
    obtain ⟨i, hi⟩ := List.mem_iff_getElem?.1 hv
    have hil : i < xs.length := by rw [← h.len]; exact (List.getElem?_eq_some_iff.1 hi).1
    obtain ⟨cur, hh⟩ := ownsRow_block (h.elems i xs[i] v (List.getElem?_eq_getElem hil) hi) (Option.mem_toList.1 hm)
    exact lt_of_heap hh
  have hSPlt : ∀ k ∈ SP, k < w.heap.size := h.pool.lt
  have hq : ∀ g, (Value.slice qa (xs.length + 1) qc).ownBlock = some g → (Value.slice la xs.length lc).ownBlock = some g ∨ w3.heap.size < g := fun g hg => by
    rcases hg4.own g hg with h1 | h1
    · exact Or.inl h1
    · simp at h1; right; omega
  have hr : ∀ g, (Value.slice ra x.length rc).ownBlock = some g → w.heap.size ≤ g ∧ g < w3.heap.size := fun g hg => by
    rcases hg3.own g hg with h1 | h1
    · simp [Value.ownBlock] at h1
    · obtain ⟨cur, hh⟩ := ownsRow_block hg3.row hg
      exact ⟨h1, lt_of_heap hh⟩
  have hneq : ∀ g, (Value.slice qa (xs.length + 1) qc).ownBlock = some g → g ≠ l := fun g hg he => by
    subst he
    exact row_ne hg4.row (Option.mem_toList.2 hg) hb4 (by decide)
  have u24 : Upto (Value.slice la xs.length lc).ownBlock.toList w w4 := ((((Upto.refl [] w).drew.trans_same hg3.up).alloc (.cells #[.slice ra x.length rc] 30)).mono (by simp)).trans_same hg4.up
  have u25 : Upto (l :: (Value.slice la xs.length lc).ownBlock.toList) w (w4.setCell ⟨l, 1, none⟩ (.slice qa (xs.length + 1) qc)) := (u24.mono (by simp; intro a ha; exact Or.inr ha)).setCell (Or.inl (by simp)) _
  have u15 : Upto S w (w4.setCell ⟨l, 1, none⟩ (.slice qa (xs.length + 1) qc)) := u25.mono (fun k hk => by rw [h.foot]; simp at hk ⊢; rcases hk with rfl | hk <;> simp [*])
  refine ⟨l :: (Value.slice qa (xs.length + 1) qc).ownBlock.toList ++ SP, (ls ++ [Value.slice ra x.length rc]).flatMap (fun (v : Value) => v.ownBlock.toList), ⟨?_, ?_, ?_, ?_, rfl, rfl, ⟨h.apart.1, ?_, ?_⟩, ?_⟩, ?_, ?_, u15⟩
  · rw [set_same hb4]; rfl
  · refine h.pool.upto u25 (fun k hk hm => ?_)
    simp only [List.mem_cons, Option.mem_toList] at hm
    rcases hm with rfl | hm
    · exact h.apart.1 hk
    · exact h.apart.2.1 k hm hk
  · have := ownsRow_of_block hg4.row (fun g hg => set_other (p := l) rfl (hneq g hg) 1 (.slice qa (xs.length + 1) qc))
    simpa using this
  · intro i y v hy hv
    rcases Nat.lt_or_ge i xs.length with hi | hi
    · rw [List.getElem?_append_left hi] at hy
      rw [List.getElem?_append_left (by rw [h.len]; exact hi)] at hv
      refine ownsRow_upto (h.elems i y v hy hv) u15 (fun g hg => h.apart.2.2 g ?_)
      rw [h.efoot]
      exact List.mem_flatMap.2 ⟨v, List.mem_of_getElem? hv, by simp [hg]⟩
    · have hi2 : i = xs.length := by
        have := (List.getElem?_eq_some_iff.1 hy).1
        simp at this
        omega
      subst hi2
      have e1 : y = x := by simpa using hy.symm
      have e2 : v = .slice ra x.length rc := by
        rw [← h.len] at hv
        simpa using hv.symm
      subst e1
      subst e2
      have a1 := ownsRow_upto hg3.row ((Upto.refl [] w3).alloc (.cells #[.slice ra y.length rc] 30)) (by simp)
      have a2 := ownsRow_upto a1 hg4.up (fun g hg hm => by
        have := hr g hg
        have := hrow_lt g (Option.mem_toList.1 hm)
        omega)
      exact ownsRow_of_block a2 (fun g hg => set_other (p := l) rfl (by have := hr g hg; omega) 1 (.slice qa (xs.length + 1) qc))
  · intro g hg hm
    rcases hq g hg with h1 | h1
    · exact h.apart.2.1 g h1 hm
    · have := hSPlt g hm
      omega
  · intro g hg hm
    obtain ⟨v, hv, hgv⟩ := List.mem_flatMap.1 hg
    simp only [List.mem_append, List.mem_cons, List.not_mem_nil, or_false] at hv
    simp only [List.cons_append, List.mem_cons, List.mem_append, Option.mem_toList] at hm
    rcases hv with hv | rfl
    · have hgE : g ∈ E := by rw [h.efoot]; exact List.mem_flatMap.2 ⟨v, hv, hgv⟩
      have hlt := hE_lt g hgE
      have hno := h.apart.2.2 g hgE
      rw [h.foot] at hno
      simp only [List.cons_append, List.mem_cons, List.mem_append, Option.mem_toList, not_or] at hno
      rcases hm with hm | hm | hm
      · exact hno.1 hm
      · rcases hq g hm with h1 | h1
        · exact hno.2.1 h1
        · omega
      · exact hno.2.2 hm
    · have hh := hr g (Option.mem_toList.1 hgv)
      rcases hm with hm | hm | hm
      · omega
      · rcases hq g hm with h1 | h1
        · have := hrow_lt g h1; omega
        · omega
      · have := hSPlt g hm; omega
  · intro y hy
    simp only [List.mem_append, List.mem_cons, List.not_mem_nil, or_false] at hy
    rcases hy with hy | rfl
    · exact h.nums y hy
    · exact ⟨hx, hl⟩
  · intro k hk
    simp only [List.cons_append, List.mem_cons, List.mem_append, Option.mem_toList] at hk
    rcases hk with rfl | hk | hk
    · left; rw [h.foot]; simp
    · rcases hq k hk with h1 | h1
      · left; rw [h.foot]; simp [h1]
      · right; omega
    · left; rw [h.foot]; simp [hk]
  · intro k hk
    obtain ⟨v, hv, hgv⟩ := List.mem_flatMap.1 hk
    simp only [List.mem_append, List.mem_cons, List.not_mem_nil, or_false] at hv
    rcases hv with hv | rfl
    · left; rw [h.efoot]; exact List.mem_flatMap.2 ⟨v, hv, hgv⟩
    · right; have := hr k (Option.mem_toList.1 hgv); omega

/-- while the clone is filled -/
def ScR (w : World) (lb room : Nat) (xs : List (List Int)) (iv' : Value) (wr : World) : Prop :=
  ∃ (i : Nat) (S E : List Nat) (p : Nat) (lv : Value) (SP : List Nat) (ls : List Value), i ≤ xs.length ∧ iv' = .int .i64 i ∧ SlP wr lb room (xs.map keyB) (xs.take i) S E p lv SP ls ∧ Within w [] S ∧ Within w [] E ∧ Upto [] w wr

section
variable {w : World} {l room : Nat} {xs : List (List Int)} {S E : List Nat}

set_option maxRecDepth 100000 in
set_option maxHeartbeats 1600000 in
theorem sclone_calls (h : SlX w l room xs S E) :
    Calls Tryd.prog 33 #[.pointer (some ⟨l, 0, none⟩)] w fun e w' => ∃ l' S' E', e = .returned (.pointer (some ⟨l', 0, none⟩)) ∧ SlX w' l' room xs S' E' ∧ Within w [] S' ∧ Within w [] E' ∧ Upto [] w w' ∧ w.heap.size ≤ l' := by
  obtain ⟨p, lv, SP, ls, h⟩ := h
  have c0 := cell_of h.blk 0
  have c1 := cell_of h.blk 1
  simp at c0 c1
  have hlw := lt_of_heap h.blk
  have hll := h.len
  have hxl := h.pool.info.2.1
  simp at hxl
  have hsl := SlC.of_row h.row
  have hels := h.elems
  have hnums := h.nums
  obtain ⟨la, lc, hlv, _⟩ := ownsRow_len h.row
  rw [hlv] at c1 hsl
  have HC := Lib.hid (pclone_calls p room (xs.map keyB) SP w h.pool)
  clear hlv h
  go_enter Tryd.func33, Tryd.ntmps33
  go_wp2_with (go_at_call 30; refine HC.out.mono ?_; rintro e w1 ⟨p', SP', rfl, hp1, hs1, hu1, hpn⟩; have d1 := (hu1.cell (p := ⟨l, 1, none⟩) hlw (by simp)).trans c1; have n1 : w1.heap.size ≠ l := (by have := hu1.size; omega); have d2 : ∀ o : Obj, (w1.alloc o).cell? ⟨l, 1, none⟩ = some (.slice la xs.length lc) := fun o => (((Upto.refl [] w1).alloc o).cell (p := ⟨l, 1, none⟩) (Nat.lt_of_lt_of_le hlw hu1.size) (by simp)).trans d1)
  have hst : ScR w w1.heap.size room xs (.int .i64 0) (w1.alloc (.cells #[.pointer (some ⟨p', 0, none⟩), .slice none 0 0] 83)) := by
    have hz := hu1.size
    refine ⟨0, _, _, p', .slice none 0 0, SP', [], by omega, rfl, ⟨new_at _ _, hp1.upto ((Upto.refl [] w1).alloc _) (by simp), World.ownsRow_nil _ _ _ _, by simp, rfl, rfl, ⟨?_, by simp [Value.ownBlock], by simp⟩, by simp⟩, ?_, by simp [Within], hu1.alloc _⟩
    · intro hm
      have := hp1.lt _ hm
      omega
    · intro k hk
      simp [Value.ownBlock] at hk
      rcases hk with rfl | hk
      · right; exact hz
      · exact hs1 k hk
  have hln : w.heap.size ≤ w1.heap.size := hu1.size
  generalize w1.alloc (.cells #[.pointer (some ⟨p', 0, none⟩), .slice none 0 0] 83) = w2 at *
  generalize w1.heap.size = lb at *
  clear HC hp1 hs1 hpn
  have hlen : (ls.length : Int) = xs.length := by omega
  go_loopw [20] (fun iv' wr => ScR w lb room xs iv' wr) (fun iv' _ => xs.length - (intOf iv').toNat)
  case atStart => exact hst
  case round =>
    clear hst
    obtain ⟨i, S2, E2, p2, lv2, SP2, ls2, hi, rfl, hp, hS, hE, hup⟩ := hrel
    have b0 := cell_of hp.blk 0
    have b1 := cell_of hp.blk 1
    simp at b0 b1
    by_cases hlt : i < xs.length
    · have hx := List.getElem?_eq_getElem hlt
      have hlsi : ls[i]? = some ls[i] := List.getElem?_eq_getElem (by omega)
      have hel := hels i _ _ hx hlsi
      obtain ⟨hyn, hyl⟩ := hnums _ (List.getElem_mem hlt)
      obtain ⟨ya, yc, hyv, _⟩ := ownsRow_len hel
      rcases hsl with ⟨h0, _⟩ | ⟨g, o, c, hs, hc⟩
      · rw [h0] at hll; simp at hll; omega
      simp only [Value.slice.injEq] at hs
      obtain ⟨rfl, -, rfl⟩ := hs
      have hg := hc i _ hlsi
      have hgw := World.block_lt_of_cell? w _ hg
      have hgr := (hup.cell (p := ⟨g, o + i, none⟩) hgw (by simp)).trans hg
      have hvr := (SlC.of_row hel).ext hup
      rw [hyv] at hgr hvr
      have htk : xs.take (i + 1) = xs.take i ++ [xs[i]] := by rw [List.take_add_one, List.getElem?_eq_getElem hlt]; rfl
      have htl : (xs.take i).length = i := by simp; omega
      have hro := hp.row
      obtain ⟨ra2, rc2, hlv2, _⟩ := ownsRow_len hro
      rw [hlv2] at b1 hro
      have HT := Lib.hid htk
      have HL := Lib.hid htl
      have Hlv := Lib.hid hlv2
      have hcl : ∀ W, Upto [] wr W → Calls Tryd.prog 38 #[.slice ya (xs[i].map iv).length yc] W fun e w' => ∃ ra rc, e = .returned (.slice ra (xs[i].map iv).length rc) ∧ Grew W w' 3 1 (.slice none 0 0) (.slice ra (xs[i].map iv).length rc) (xs[i].map iv).length (xs[i].map iv) :=
        fun W hu => cloneI ya yc (xs[i].map iv) W (by simpa using hvr.ext hu) (by simp [iv, Value.oneCell']) (by simp; omega)
      simp only [List.length_map] at hcl
      have HC := Lib.hid (hcl wr.drew (Upto.refl [] wr).drew)
      obtain ⟨i0, hi0, hz0, hz1, hz2⟩ := info_parts infoL
      have hbl := hp.blk
      have hlb := lt_of_heap hbl
      clear hcl hx hlsi hel hyv hc hg htk htl hlv2 hvr
      generalize xs[i] = y at *
      have h63 : (xs.take i).length ≤ 1048576 := by have := HL.out; omega
      generalize xs.take i = zs at *
      have hrow2 := hro
      go_wp2_with fail
      go_region_law (first
        | (refine step_app _ (by rfl) (.tmp 28) (.tmp 31) 56 (by rfl) 30 i0 (.slice none 0 0) 1 24 Tryd.underlying56 hi0 hz0 hz1 hz2 rfl (by decide) _ _ _ (by rfl) (hro3.alloc _) ⟨w3.heap.size, 0, none⟩ 1 1 [.slice ra y.length rc] (by rfl) (by rfl) (one_at (new_at _ _)) (by simp [Value.oneCell']) (by unfold maxLen; omega) (by omega) ?_; intro qa qc w4 hg4; have hb4 := hg4.up.at (alloc_old hb3 _) (fun hm => row_ne hro3 hm hb3 (by decide)); have k4 := cell_of hb4 1; have f4 := free_of hb4 1; simp at k4)
        | (go_simp; go_at_call 38; refine HC.out.mono ?_; rintro e w3 ⟨ra, rc, rfl, hg3⟩; have hro3 := ownsRow_upto (hro.drew) hg3.up (by simp [Value.ownBlock]); have hb3 := hg3.up.at (show wr.drew.heap[lb]? = _ from hbl) (by simp [Value.ownBlock]); have k3 := cell_of hb3 1; simp at k3; rw [Hlv.out] at k3; have hl3 := lt_of_heap hb3))
      all_goals
        obtain ⟨S', E', hp', hS', hE', hu'⟩ := hp.push hyn hyl Hlv.out hg3 hb4 hg4
        rw [← HT.out] at hp'
        have hz := hup.size
        have hS2 := Within.next hS hS' hz
        have hE2 := Within.next hE hE' hz
        have hup2 := hup.trans hu' hS
        clear hp hro hrow2 hg3 hg4 hb3 hb4 k3 k4 f4 hro3 hS' hE' hu' HC
        go_wp2
        go_roundw
        case rel => exact ⟨i + 1, S', E', _, _, _, _, by omega, by go_num, hp', hS2, hE2, hup2⟩
        case measure => simp [intOf]; omega
    · obtain rfl : i = xs.length := by omega
      rw [List.take_length] at hp
      have hd := hp.done
      go_wp2
      go_ret
      exact ⟨lb, S2, E2, rfl, hd, hS, hE, hup, hln⟩

set_option maxRecDepth 100000 in
set_option maxHeartbeats 800000 in
theorem sequal_calls {c p r1 r2 : Nat} {zs ys : List (List Int)} {S1 E1 S2 E2 : List Nat} (hc : SlX w c r1 zs S1 E1) (hp : SlX w p r2 ys S2 E2) :
    Calls Tryd.prog 34 #[.pointer (some ⟨c, 0, none⟩), .pointer (some ⟨p, 0, none⟩)] w fun e w' => e = .returned (.bool (decide (r1 = r2 ∧ zs = ys))) ∧ Upto [] w w' := by
  obtain ⟨p1, lv1, SP1, ls1, hc⟩ := hc
  obtain ⟨p2, lv2, SP2, ls2, hp⟩ := hp
  have a0 := cell_of hc.blk 0
  have b0 := cell_of hp.blk 0
  simp at a0 b0
  have e0 : ∀ u : Ext w, u.w.cell? ⟨c, 0, none⟩ = some (.pointer (some ⟨p1, 0, none⟩)) := fun u => u.cell a0
  have e1 : ∀ u : Ext w, u.w.cell? ⟨p, 0, none⟩ = some (.pointer (some ⟨p2, 0, none⟩)) := fun u => u.cell b0
  have hq : decide (r1 = r2 ∧ zs.map keyB = ys.map keyB) = decide (r1 = r2 ∧ zs = ys) := by
    apply decide_eq_decide.2
    constructor
    · rintro ⟨rfl, h⟩
      refine ⟨rfl, ?_⟩
      exact List.map_inj_right (fun _ _ h => keyB_inj h) |>.1 h
    · rintro ⟨rfl, rfl⟩; exact ⟨rfl, rfl⟩
  have HE : Hid (∀ u : Ext w, Calls Tryd.prog 31 #[.pointer (some ⟨p1, 0, none⟩), .pointer (some ⟨p2, 0, none⟩)] u.w fun e w'' => e = .returned (.bool (decide (r1 = r2 ∧ zs = ys))) ∧ ∃ m : Ext w, w'' = m.w) := fun u => by
    have := equal_calls p1 p2 r1 r2 (zs.map keyB) (ys.map keyB) SP1 SP2 u.w (hc.pool.upto u.up (by simp)) (hp.pool.upto u.up (by simp))
    rw [hq] at this
    exact calls_ext u this
  generalize decide (r1 = r2 ∧ zs = ys) = d at *
  clear hq hc hp a0 b0
  go_enter Tryd.func34, Tryd.ntmps34
  go_wp2_with fail
  refine wp_region_ext (by kernel_rfl) (by kernel_rfl) ?_
  repeat (go_big_quiet_step ((go_at_call 31; exact HE.out _)))
  refine wpQuiet_nil ?_
  rintro _ ⟨u3, rfl⟩
  have hu3 := u3.up
  generalize u3.w = w3 at *
  clear e0 e1
  go_wp2
  go_ret
  exact ⟨rfl, hu3⟩

set_option maxHeartbeats 400000 in
theorem sequal_nil (p : Nat) (w : World) : Calls Tryd.prog 34 #[.pointer (some ⟨p, 0, none⟩), .pointer none] w fun e w' => e = .returned (.bool false) ∧ w = w' := by
  go_enter Tryd.func34, Tryd.ntmps34
  go_wp2
  all_goals
    go_ret
    exact ⟨rfl, rfl⟩
end
end Go.Proofs.YtffnkjlobflhcaaDoor
