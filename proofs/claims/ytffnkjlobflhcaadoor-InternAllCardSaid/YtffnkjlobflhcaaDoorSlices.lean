/- The pool of slices: NewSlices, Intern, Len. -/
import Derived.Test.YtffnkjlobflhcaaDoorSeen
import Derived.Test.YtffnkjlobflhcaaDoorKey
import Derived.Test.YtffnkjlobflhcaaDoorClone
import Derived.Deep.RegionHeld3
import Derived.Deep.RegionLaw
namespace Go.Proofs.YtffnkjlobflhcaaDoor
open Go.RowKit Go.PL Go.Maps

def keyB (x : List Int) : ByteArray := ⟨(keyL x).toArray⟩
theorem keyB_inj {a b : List Int} (h : keyB a = keyB b) : a = b := keyL_inj (by
  have := congrArg (fun s : ByteArray => s.data.toList) h
  simpa [keyB] using this)
theorem keyB_size (x : List Int) (hx : ∀ n ∈ x, I64 n) (hl : x.length ≤ 1048576) : (keyB x).size ≤ maxLen := by
  have := keyL_len x hx
  show (keyL x).toArray.size ≤ maxLen
  simp
  unfold maxLen
  omega

/-- a pool of slices at l: its own blocks S, the blocks of its elements E -/
structure SlS (w : World) (l room : Nat) (xs : List (List Int)) (S E : List Nat) (p : Nat) (lv : Value) (SP : List Nat) (ls : List Value) : Prop where
  blk : w.heap[l]? = some (.cells #[.pointer (some ⟨p, 0, none⟩), lv] 83 (0, 0))
  pool : PoolX w p room (xs.map keyB) SP
  row : w.ownsRow 0 30 1 lv xs.length ls
  elems : ∀ (i : Nat) (x : List Int) (v : Value), xs[i]? = some x → ls[i]? = some v → w.ownsRow 0 3 1 v x.length (x.map iv)
  foot : S = l :: lv.ownBlock.toList ++ SP
  efoot : E = ls.flatMap (fun v => v.ownBlock.toList)
  apart : l ∉ SP ∧ (∀ g, lv.ownBlock = some g → g ∉ SP) ∧ ∀ g ∈ E, g ∉ S
  nums : ∀ x ∈ xs, (∀ n ∈ x, I64 n) ∧ x.length ≤ 1048576
def SlX (w : World) (l room : Nat) (xs : List (List Int)) (S E : List Nat) : Prop := ∃ p lv SP ls, SlS w l room xs S E p lv SP ls

theorem SlS.len {w : World} {l room : Nat} {xs : List (List Int)} {S E : List Nat} {p : Nat} {lv : Value} {SP : List Nat} {ls : List Value} (h : SlS w l room xs S E p lv SP ls) : ls.length = xs.length := by
  have := h.row.1
  simpa using this

theorem SlX.upto {w w' : World} {l room : Nat} {xs : List (List Int)} {S E T : List Nat} (h : SlX w l room xs S E) (hu : Upto T w w') (hs : ∀ k ∈ S, k ∉ T) (he : ∀ k ∈ E, k ∉ T) : SlX w' l room xs S E := by
  obtain ⟨p, lv, SP, ls, h⟩ := h
  refine ⟨p, lv, SP, ls, hu.at h.blk (hs l (by rw [h.foot]; simp)), h.pool.upto hu (fun k hk => hs k (by rw [h.foot]; simp [hk])), ownsRow_upto h.row hu (fun g hg => hs g (by rw [h.foot]; simp [hg])), ?_, h.foot, h.efoot, h.apart, h.nums⟩
  intro i x v hx hv
  refine ownsRow_upto (h.elems i x v hx hv) hu (fun g hg => he g ?_)
  rw [h.efoot]
  exact List.mem_flatMap.2 ⟨v, List.mem_of_getElem? hv, by simp [hg]⟩

set_option maxRecDepth 100000 in
set_option maxHeartbeats 400000 in
theorem newSlices_calls (n : Nat) (hn : n ≤ 1048576) (w : World) :
    Calls Tryd.prog 24 #[.int .i64 n] w fun e w' => ∃ l S, e = .returned (.tuple #[.pointer (some ⟨l, 0, none⟩), .int .i64 0]) ∧ SlX w' l n [] S [] ∧ Within w [] S ∧ Upto [] w w' := by
  have HN := Lib.hid (new_calls n hn w)
  go_enter Tryd.func24, Tryd.ntmps24
  go_wp2_with (go_at_call 15; refine HN.out.mono ?_; rintro e w1 ⟨p, S, rfl, hp, hs, hu⟩)
  go_ret2
  refine ⟨w1.heap.size, w1.heap.size :: S, rfl, ⟨p, .slice none 0 0, S, [], new_at _ _, hp.upto ((Upto.refl [] _).alloc _) (by simp), World.ownsRow_nil _ _ _ _, by simp, by simp [Value.ownBlock], by simp, ⟨?_, by simp [Value.ownBlock], by simp⟩, by simp⟩, ?_, hu.alloc _⟩
  · intro hm
    have := PoolX.lt hp _ hm
    omega
  · intro k hk
    simp at hk
    rcases hk with rfl | hk
    · right; exact hu.size
    · exact hs k hk

set_option maxHeartbeats 400000 in
theorem slen_calls {w : World} {l room : Nat} {xs : List (List Int)} {S E : List Nat} (h : SlX w l room xs S E) :
    Calls Tryd.prog 27 #[.pointer (some ⟨l, 0, none⟩)] w fun e w' => e = .returned (.int .i64 xs.length) ∧ w = w' := by
  obtain ⟨p, lv, SP, ls, h⟩ := h
  have c0 := cell_of h.blk 0
  simp at c0
  have HL := Lib.hid (len_calls h.pool)
  go_enter Tryd.func27, Tryd.ntmps27
  go_wp2_with (go_at_call 22; refine HL.out.mono ?_; rintro e w1 ⟨rfl, rfl⟩)
  go_ret
  exact ⟨ret_int (by simp), rfl⟩

theorem internF_new {room : Nat} {xs : List (List Int)} {x : List Int} (hnew : x ∉ xs) (hr : xs.length < room) : internF room (xs.map keyB) (keyB x) = ((xs ++ [x]).map keyB, xs.length, 0) := by
  unfold internF
  rw [idx_not (by
    intro hm
    obtain ⟨y, hy, he⟩ := List.mem_map.1 hm
    rw [keyB_inj he] at hy
    exact hnew hy)]
  simp
  omega

theorem sintern_done {w w1 w2 w3 w4 : World} {l room : Nat} {xs : List (List Int)} {S E : List Nat} {p : Nat} {lv : Value} {SP SP' : List Nat} {ls : List Value} {x : List Int} {la ra qa : Option Addr} {lc rc qc : Nat}
    (h : SlS w l room xs S E p lv SP ls) (hx : ∀ n ∈ x, I64 n) (hl : x.length ≤ 1048576) (hlv : lv = .slice la xs.length lc) (hu1 : Upto [] w w1) (hp2 : PoolX w2 p room ((xs ++ [x]).map keyB) SP') (hs2 : Within w1 SP SP') (hu2 : Upto SP w1 w2)
    (hg3 : Grew w2.drew w3 3 1 (.slice none 0 0) (.slice ra x.length rc) x.length (x.map iv)) (hb4 : w4.heap[l]? = some (.cells #[.pointer (some ⟨p, 0, none⟩), lv] 83 (0, 0)))
    (hg4 : Grew (w3.alloc (.cells #[.slice ra x.length rc] 30)) w4 30 1 (.slice la xs.length lc) (.slice qa (xs.length + 1) qc) (xs.length + 1) (ls ++ [.slice ra x.length rc])) :
    ∃ S' E', SlX (w4.setCell ⟨l, 1, none⟩ (.slice qa (xs.length + 1) qc)) l room (xs ++ [x]) S' E' ∧ Within w S S' ∧ Within w E E' ∧ Upto S w (w4.setCell ⟨l, 1, none⟩ (.slice qa (xs.length + 1) qc)) := by
  subst hlv
  have z1 := hu1.size
  have z2 := hu2.size
  have z3 : w2.heap.size ≤ w3.heap.size := hg3.up.size
  have z4 : w3.heap.size + 1 ≤ w4.heap.size := by have := hg4.up.size; simpa using this
  have hlw := lt_of_heap h.blk
  have hrow_lt : ∀ g, (Value.slice la xs.length lc).ownBlock = some g → g < w.heap.size := fun g hg => by
    obtain ⟨cur, hh⟩ := ownsRow_block h.row hg
    exact lt_of_heap hh
  have hE_lt : ∀ g ∈ E, g < w.heap.size := fun g hg => by
    rw [h.efoot] at hg
    obtain ⟨v, hv, hm⟩ := List.mem_flatMap.1 hg
    obtain ⟨i, hi⟩ := List.mem_iff_getElem?.1 hv
    have hil : i < xs.length := by rw [← h.len]; exact (List.getElem?_eq_some_iff.1 hi).1
    obtain ⟨cur, hh⟩ := ownsRow_block (h.elems i xs[i] v (List.getElem?_eq_getElem hil) hi) (Option.mem_toList.1 hm)
    exact lt_of_heap hh
  have hSP' : ∀ k ∈ SP', k ∈ SP ∨ w1.heap.size ≤ k := hs2
  have hSPlt : ∀ k ∈ SP', k < w2.heap.size := hp2.lt
  have hSPw : ∀ k ∈ SP, k < w.heap.size := h.pool.lt
  -- where the new row lies
  have hq : ∀ g, (Value.slice qa (xs.length + 1) qc).ownBlock = some g → (Value.slice la xs.length lc).ownBlock = some g ∨ w3.heap.size < g := fun g hg => by
    rcases hg4.own g hg with h1 | h1
    · exact Or.inl h1
    · simp at h1; right; omega
  have hr : ∀ g, (Value.slice ra x.length rc).ownBlock = some g → w2.heap.size ≤ g ∧ g < w3.heap.size := fun g hg => by
    rcases hg3.own g hg with h1 | h1
    · simp [Value.ownBlock] at h1
    · obtain ⟨cur, hh⟩ := ownsRow_block hg3.row hg
      exact ⟨h1, lt_of_heap hh⟩
  have hneq : ∀ g, (Value.slice qa (xs.length + 1) qc).ownBlock = some g → g ≠ l := fun g hg he => by
    subst he
    exact row_ne hg4.row (Option.mem_toList.2 hg) hb4 (by decide)
  have u24 : Upto (Value.slice la xs.length lc).ownBlock.toList w2 w4 := ((((Upto.refl [] w2).drew.trans_same hg3.up).alloc (.cells #[.slice ra x.length rc] 30)).mono (by simp)).trans_same hg4.up
  have u25 : Upto (l :: (Value.slice la xs.length lc).ownBlock.toList) w2 (w4.setCell ⟨l, 1, none⟩ (.slice qa (xs.length + 1) qc)) := (u24.mono (by simp; intro a ha; exact Or.inr ha)).setCell (Or.inl (by simp)) _
  have u15 : Upto S w (w4.setCell ⟨l, 1, none⟩ (.slice qa (xs.length + 1) qc)) := by
    have a1 : Upto S w w2 := (hu1.mono (by simp)).trans_same (hu2.mono (fun k hk => by rw [h.foot]; simp [hk]))
    exact a1.trans_same (u25.mono (fun k hk => by rw [h.foot]; simp at hk ⊢; rcases hk with rfl | hk <;> simp [*]))
  have hlSP' : l ∉ SP' := fun hm => by
    rcases hSP' l hm with h1 | h1
    · exact h.apart.1 h1
    · omega
  have hrowSP' : ∀ g, (Value.slice la xs.length lc).ownBlock = some g → g ∉ SP' := fun g hg hm => by
    have := hrow_lt g hg
    rcases hSP' g hm with h1 | h1
    · exact h.apart.2.1 g hg h1
    · omega
  refine ⟨l :: (Value.slice qa (xs.length + 1) qc).ownBlock.toList ++ SP', (ls ++ [Value.slice ra x.length rc]).flatMap (fun (v : Value) => v.ownBlock.toList), ⟨p, .slice qa (xs.length + 1) qc, SP', ls ++ [.slice ra x.length rc], ?_, ?_, ?_, ?_, rfl, rfl, ⟨hlSP', ?_, ?_⟩, ?_⟩, ?_, ?_, u15⟩
  · rw [set_same hb4]; rfl
  · refine hp2.upto u25 (fun k hk hm => ?_)
    simp only [List.mem_cons, Option.mem_toList] at hm
    rcases hm with rfl | hm
    · exact hlSP' hk
    · exact hrowSP' k hm hk
  · have := ownsRow_of_block hg4.row (fun g hg => set_other (p := l) rfl (hneq g hg) 1 (.slice qa (xs.length + 1) qc))
    simpa using this
  · intro i y v hy hv
    rcases Nat.lt_or_ge i xs.length with hi | hi
    · rw [List.getElem?_append_left hi] at hy
      rw [List.getElem?_append_left (by rw [h.len]; exact hi)] at hv
      refine ownsRow_upto (h.elems i y v hy hv) u15 (fun g hg => h.apart.2.2 g ?_)
      rw [h.efoot]
      exact List.mem_flatMap.2 ⟨v, List.mem_of_getElem? hv, by simp [hg]⟩
    · have hi2 : i = xs.length := by
        have := (List.getElem?_eq_some_iff.1 hy).1
        simp at this
        omega
      subst hi2
      have e1 : y = x := by simpa using hy.symm
      have e2 : v = .slice ra x.length rc := by
        rw [← h.len] at hv
        simpa using hv.symm
      subst e1
      subst e2
      have a1 := ownsRow_upto hg3.row ((Upto.refl [] w3).alloc (.cells #[.slice ra y.length rc] 30)) (by simp)
      have a2 := ownsRow_upto a1 hg4.up (fun g hg hm => by
        have := hr g hg
        have := hrow_lt g (Option.mem_toList.1 hm)
        omega)
      exact ownsRow_of_block a2 (fun g hg => set_other (p := l) rfl (by have := hr g hg; omega) 1 (.slice qa (xs.length + 1) qc))
  · intro g hg hm
    rcases hq g hg with h1 | h1
    · exact hrowSP' g h1 hm
    · have := hSPlt g hm
      omega
  · intro g hg hm
    obtain ⟨v, hv, hgv⟩ := List.mem_flatMap.1 hg
    simp only [List.mem_append, List.mem_cons, List.not_mem_nil, or_false] at hv
    simp only [List.cons_append, List.mem_cons, List.mem_append, Option.mem_toList] at hm
    rcases hv with hv | rfl
    · have hgE : g ∈ E := by rw [h.efoot]; exact List.mem_flatMap.2 ⟨v, hv, hgv⟩
      have hlt := hE_lt g hgE
      have hno := h.apart.2.2 g hgE
      rw [h.foot] at hno
      simp only [List.cons_append, List.mem_cons, List.mem_append, Option.mem_toList, not_or] at hno
      rcases hm with hm | hm | hm
      · exact hno.1 hm
      · rcases hq g hm with h1 | h1
        · exact hno.2.1 h1
        · omega
      · rcases hSP' g hm with h1 | h1
        · exact hno.2.2 h1
        · omega
    · have hh := hr g (Option.mem_toList.1 hgv)
      rcases hm with hm | hm | hm
      · omega
      · rcases hq g hm with h1 | h1
        · have := hrow_lt g h1; omega
        · omega
      · have := hSPlt g hm; omega
  · intro y hy
    simp only [List.mem_append, List.mem_cons, List.not_mem_nil, or_false] at hy
    rcases hy with hy | rfl
    · exact h.nums y hy
    · exact ⟨hx, hl⟩
  · intro k hk
    simp only [List.cons_append, List.mem_cons, List.mem_append, Option.mem_toList] at hk
    rcases hk with rfl | hk | hk
    · left; rw [h.foot]; simp
    · rcases hq k hk with h1 | h1
      · left; rw [h.foot]; simp [h1]
      · right; omega
    · rcases hSP' k hk with h1 | h1
      · left; rw [h.foot]; simp [h1]
      · right; omega
  · intro k hk
    obtain ⟨v, hv, hgv⟩ := List.mem_flatMap.1 hk
    simp only [List.mem_append, List.mem_cons, List.not_mem_nil, or_false] at hv
    rcases hv with hv | rfl
    · left; rw [h.efoot]; exact List.mem_flatMap.2 ⟨v, hv, hgv⟩
    · right; have := hr k (Option.mem_toList.1 hgv); omega

section
variable {w : World} {l room : Nat} {xs : List (List Int)} {S E : List Nat} (x : List Int) (va : Option Addr) (vc : Nat)

theorem infoL : (Tryd.prog.info? 30).map (fun i => (i.zero, i.size, i.bytes)) = some (some (.slice none 0 0), 1, 24) := by kernel_rfl

set_option maxRecDepth 100000 in
set_option maxHeartbeats 1600000 in
theorem sintern_new (h : SlX w l room xs S E) (hv : SlC w (.slice va x.length vc) (x.map iv)) (hx : ∀ n ∈ x, I64 n) (hl : x.length ≤ 1048576) (hxs : ∀ a, va = some a → x ≠ [] → a.block ∉ S) (hnew : x ∉ xs) (hr : xs.length < room) :
    Calls Tryd.prog 26 #[.pointer (some ⟨l, 0, none⟩), .slice va x.length vc] w fun e w' => e = .returned (.tuple #[.int .i64 xs.length, .int .i64 0]) ∧
      ∃ S' E', SlX w' l room (xs ++ [x]) S' E' ∧ Within w S S' ∧ Within w E E' ∧ Upto S w w' := by
  obtain ⟨p, lv, SP, ls, h⟩ := h
  have c0 := cell_of h.blk 0
  have c1 := cell_of h.blk 1
  simp at c0 c1
  have hlw := lt_of_heap h.blk
  have hlsp := h.apart.1
  have hpd := h.pool.drewN 1
  have hkx := key_calls x hx va vc (w.drewN 1) (hv.ext ((Upto.refl [] w).drewN 1)) hl
  have HK : Hid (Calls Tryd.prog 37 #[.slice va x.length vc] w.drew fun e w' => e = .returned (.string ⟨(keyL x).toArray⟩) ∧ Upto [] w w') := hkx.mono fun e w' ⟨h1, h2⟩ => ⟨h1, ((Upto.refl [] w).drewN 1).trans_same h2⟩
  have HI : Hid (∀ w1, Upto [] w w1 → Calls Tryd.prog 18 #[.pointer (some ⟨p, 0, none⟩), .string ⟨(keyL x).toArray⟩] w1 fun e w' => e = .returned (.tuple #[.int .i64 xs.length, .int .i64 0]) ∧
      ∃ S', PoolX w' p room ((xs ++ [x]).map keyB) S' ∧ Within w1 SP S' ∧ Upto SP w1 w') := fun w1 hu => by
    have := intern_calls (h.pool.upto hu (by simp)) (keyB x) (keyB_size x hx hl)
    rw [internF_new hnew hr] at this
    exact this
  clear hkx
  go_enter Tryd.func26, Tryd.ntmps26
  go_wp2_with fail
  go_region_held3 (fun w' => w'.cell? ⟨l, 0, none⟩ = some (.pointer (some ⟨p, 0, none⟩)))
    (first | go_keep | (rw [hu1.cell hlw (by simp)]; assumption) | (rw [hu2.cell (Nat.lt_of_lt_of_le hlw hs1) hlsp]; assumption))
    (first
      | (go_at_call 37; refine HK.out.mono ?_; rintro e w1 ⟨rfl, hu1⟩; have hs1 := hu1.size)
      | (go_at_call 18; refine (HI.out _ hu1).mono ?_; rintro e w2 ⟨rfl, SP', hp2, hs2, hu2⟩))
  have hb2 : w2.heap[l]? = some (.cells #[.pointer (some ⟨p, 0, none⟩), lv] 83 (0, 0)) := hu2.at (hu1.at h.blk (by simp)) hlsp
  have hro : w2.ownsRow 0 30 1 lv xs.length ls := ownsRow_upto (ownsRow_upto h.row hu1 (by simp)) hu2 h.apart.2.1
  have hv2 : SlC w2 (.slice va x.length vc) (x.map iv) := (hv.ext hu1).upto hu2 (fun g o n c hs hne hm => by
    simp only [Value.slice.injEq] at hs
    exact hxs _ hs.1 (by simpa using hne) (by rw [h.foot]; simp [hm]))
  obtain ⟨la, lc, hlv, _⟩ := ownsRow_len hro
  have Hlv := Lib.hid hlv
  have e0 := cell_of hb2 0
  have e1 := cell_of hb2 1
  have f1 := free_of hb2 1
  simp at e0 e1
  rw [hlv] at e1 hro
  have hcl := cloneI va vc (x.map iv) w2.drew (by simpa using hv2.ext (Upto.refl [] w2).drew) (by simp [iv, Value.oneCell']) (by simp; omega)
  simp only [List.length_map] at hcl
  have HC := Lib.hid hcl
  obtain ⟨i0, hi0, hz0, hz1, hz2⟩ := info_parts infoL
  have hlw2 := lt_of_heap hb2
  have hxl := h.pool.info.2.1
  simp at hxl
  clear hlv hcl
  go_wp2
  go_region_law (first
      | (refine step_app _ (by rfl) (.tmp 35) (.tmp 38) 56 (by rfl) 30 i0 (.slice none 0 0) 1 24 Tryd.underlying56 hi0 hz0 hz1 hz2 rfl (by decide) _ _ _ (by rfl) (hro3.alloc _) ⟨w3.heap.size, 0, none⟩ 1 1 [.slice ra x.length rc] (by rfl) (by rfl) (one_at (new_at _ _)) (by simp [Value.oneCell']) (by unfold maxLen; omega) (by omega) ?_; intro qa qc w4 hg4; have hb4 := hg4.up.at (alloc_old hb3 _) (fun hm => row_ne hro3 hm hb3 (by decide)); have k4 := cell_of hb4 1; have f4 := free_of hb4 1; simp at k4)
      | (go_simp; go_at_call 38; refine HC.out.mono ?_; rintro e w3 ⟨ra, rc, rfl, hg3⟩; have hro3 := ownsRow_upto (hro.drew) hg3.up (by simp [Value.ownBlock]); have hb3 := hg3.up.at (show w2.drew.heap[l]? = _ from hb2) (by simp [Value.ownBlock]); have k3 := cell_of hb3 1; simp at k3; rw [Hlv.out] at k3; have hl3 := lt_of_heap hb3))
  all_goals
    go_wp2
    go_ret2
    exact ⟨rfl, sintern_done h hx hl Hlv.out hu1 hp2 hs2 hu2 hg3 hb4 hg4⟩
end
end Go.Proofs.YtffnkjlobflhcaaDoor
