/- The pool of pairs of int8: New, Intern, Len. -/
import Derived.Test.YtffnkjlobflhcaaDoorKnown
import Derived.DeepKeys4
namespace Go.Proofs.YtffnkjlobflhcaaDoor
open Go.RowKit Go.PL Go.Maps

def I8 (n : Int) : Prop := -128 ≤ n ∧ n ≤ 127
def kv (k : Int × Int) : Value := .agg #[.int .i8 k.1, .int .i8 k.2]
theorem kv_inj {a b : Int × Int} (h : kv a = kv b) : a = b := by
  simp [kv] at h
  exact Prod.ext h.1 h.2

theorem Tryd.lo : laidOutB Tryd.prog = true := by kernel_rfl
theorem Tryd.row28 : (28 : TypeId) < Tryd.prog.types.size := of_decide_eq_true (by kernel_rfl)
theorem Tryd.wide28 : (match Tryd.prog.underlying 28 with | some (.array _ _) | some (.struct _) => true | _ => false) = true := by rw [Tryd.underlying28]
theorem Tryd.cells28 : Tryd.prog.cellsOf 28 = 2 := by kernel_rfl
theorem Tryd.cells27 : Tryd.prog.cellsOf 27 = 1 := by kernel_rfl
theorem Tryd.keyType28 : Tryd.prog.keyType 28 = true := by kernel_rfl
set_option maxRecDepth 100000 in
theorem lawP : Keyed Tryd.prog 28 := Keyed.of_law (deep_law_laid Tryd.lo (m := 2) (by omega) Tryd.row28 (by kernel_rfl) Tryd.wide28)
theorem infoP : (Tryd.prog.info? 28).map (fun i => (i.zero, i.size, i.bytes)) = some (some (.agg #[.int .i8 0, .int .i8 0]), 2, 2) := by kernel_rfl

theorem keyP (k : Int × Int) (h1 : I8 k.1) (h2 : I8 k.2) : ∃ l, keyOf Tryd.prog 28 (kv k) = some l := by
  obtain ⟨d, hs⟩ : ∃ d, Tryd.prog.types.size + 1 = d + 2 := ⟨128, by kernel_rfl⟩
  have w1 : (Lit.int .i8 k.1).wf = true := by simp [Lit.wf, IntKind.min, IntKind.max, IntKind.signed, IntKind.bits]; exact h1
  have w2 : (Lit.int .i8 k.2).wf = true := by simp [Lit.wf, IntKind.min, IntKind.max, IntKind.signed, IntKind.bits]; exact h2
  have step : Program.keyLits Tryd.prog (d + 2) 28 [.int .i8 k.1, .int .i8 k.2] = some [.int .i8 k.1, .int .i8 k.2] := by
    simp [Program.keyLits, Tryd.underlying28, Tryd.cells28, List.range_succ, Tryd.cells27, Tryd.underlying27, w1, w2]
  refine ⟨.string (keyBytes [.int .i8 k.1, .int .i8 k.2]), ?_⟩
  simp only [keyOf, kv, Tryd.underlying28, Tryd.keyType28, Value.formed, Tryd.cells28, Value.cells, hs]
  simp [step]

def entsP (ks : List (Int × Int)) : List (Value × Value) := ks.zipIdx.map fun p => (kv p.1, .int .i64 p.2)

theorem entsP_app (ks : List (Int × Int)) (k : Int × Int) : entsP (ks ++ [k]) = entsP ks ++ [(kv k, .int .i64 ks.length)] := by
  simp [entsP, List.zipIdx_append]
theorem entsP_mem {ks : List (Int × Int)} {k : Int × Int} {v : Value} (h : (kv k, v) ∈ entsP ks) : ∃ i : Nat, ks[i]? = some k ∧ v = .int .i64 i := by
  obtain ⟨⟨s, i⟩, hp, he⟩ := List.mem_map.1 h
  simp only [Prod.mk.injEq] at he
  obtain ⟨h1, rfl⟩ := he
  obtain rfl := kv_inj h1
  exact ⟨i, by simpa [List.mk_mem_zipIdx_iff_getElem?] using hp, rfl⟩
theorem entsP_not {ks : List (Int × Int)} {k : Int × Int} (h : ∀ p ∈ entsP ks, p.1 ≠ kv k) : k ∉ ks := by
  intro hm
  obtain ⟨i, hi⟩ := List.mem_iff_getElem?.1 hm
  exact h (kv k, .int .i64 i) (List.mem_map.2 ⟨(k, i), by simpa [List.mk_mem_zipIdx_iff_getElem?] using hi, rfl⟩) rfl
theorem entsP_new {ks : List (Int × Int)} {k : Int × Int} (h : k ∉ ks) : ∀ p ∈ entsP ks, p.1 ≠ kv k := by
  intro p hp he
  obtain ⟨⟨s, i⟩, hm, rfl⟩ := List.mem_map.1 hp
  have e := kv_inj he
  subst e
  have : ks[i]? = some s := by simpa [List.mk_mem_zipIdx_iff_getElem?] using hm
  exact h (List.mem_of_getElem? this)

def flat (ks : List (Int × Int)) : List Value := ks.flatMap fun k => [.int .i8 k.1, .int .i8 k.2]

structure PoolP (w : World) (p room : Nat) (ks : List (Int × Int)) (S : List Nat) (mb : Nat) (va : Option Addr) (vc : Nat) : Prop where
  blk : w.heap[p]? = some (.cells #[.int .i64 room, .map (some mb), .slice va ks.length vc] 75 (0, 0))
  map : MapL Tryd.prog 28 w mb (entsP ks)
  row : w.ownsRow 0 28 2 (.slice va ks.length vc) ks.length (flat ks)
  foot : S = p :: mb :: (Value.slice va ks.length vc).ownBlock.toList
  nodup : ks.Nodup
  le : ks.length ≤ room
  room : room ≤ 1048576
def PairX (w : World) (p room : Nat) (ks : List (Int × Int)) (S : List Nat) : Prop := ∃ mb va vc, PoolP w p room ks S mb va vc

theorem PairX.upto {w w' : World} {p room : Nat} {ks : List (Int × Int)} {S T : List Nat} (h : PairX w p room ks S) (hu : Upto T w w') (hd : ∀ k ∈ S, k ∉ T) : PairX w' p room ks S := by
  obtain ⟨mb, va, vc, h⟩ := h
  have hf := h.foot
  exact ⟨mb, va, vc, ⟨hu.at h.blk (hd p (by rw [hf]; simp)), h.map.upto hu (hd mb (by rw [hf]; simp)), ownsRow_upto h.row hu (fun g hg => hd g (by rw [hf]; simp [hg])), hf, h.nodup, h.le, h.room⟩⟩

section
variable {w : World} {p room : Nat} {ks : List (Int × Int)} {S : List Nat}

set_option maxRecDepth 100000 in
set_option maxHeartbeats 800000 in
theorem pintern_hit (h : PairX w p room ks S) (k : Int × Int) (h1 : I8 k.1) (h2 : I8 k.2) (i : Nat) (hi : ks[i]? = some k) :
    Calls Tryd.prog 12 #[.pointer (some ⟨p, 0, none⟩), kv k] w fun e w' => e = .returned (.tuple #[.int .i64 i, .int .i64 0]) ∧ Upto [] w w' := by
  obtain ⟨mb, va, vc, h⟩ := h
  obtain ⟨l, hk⟩ := keyP k h1 h2
  have c1 := cell_of h.blk 1
  simp at c1
  have hpw := lt_of_heap h.blk
  have hl : ∀ n, (Instr.lookup 73 (.map (some mb)) (kv k) true).run Tryd.prog ((w.alloc (.cells #[.int .i8 k.1, .int .i8 k.2] 28)).drewN n) = .ok (.tuple #[.int .i64 i, .bool true]) ((w.alloc (.cells #[.int .i8 k.1, .int .i8 k.2] 28)).drewN n) := fun n => by
    rcases (h.map.upto (((Upto.refl [] w).alloc (.cells #[.int .i8 k.1, .int .i8 k.2] 28)).drewN n) (by simp)).look lawP Tryd.underlying73 (zeroI _) hk true with ⟨_, h2⟩ | ⟨v, hv, hr⟩
    · exact absurd (List.mem_of_getElem? hi) (entsP_not h2)
    · obtain ⟨j, hj, rfl⟩ := entsP_mem hv
      obtain rfl : i = j := (List.getElem?_inj (by exact (List.getElem?_eq_some_iff.1 hi).1) h.nodup).1 (by rw [hi, hj])
      exact hr
  obtain ⟨a, b⟩ := k
  unfold kv at hl ⊢
  go_enter Tryd.func12, Tryd.ntmps12
  go_wp2
  go_quiet (fail)
  go_wp2
  go_ret2
  exact ⟨rfl, ((Upto.refl _ _).alloc _).drewN _⟩

theorem flat_len (ks : List (Int × Int)) : (flat ks).length = ks.length * 2 := by
  induction ks with
  | nil => rfl
  | cons x r ih => simp [flat] at ih ⊢; omega

theorem two_at {w : World} {B : Nat} {x y : Value} {t : TypeId} {fr : Nat × Nat} (hb : w.heap[B]? = some (.cells #[x, y] t fr)) : ∀ (j : Nat) (u : Value), [x, y][j]? = some u → w.cell? ((⟨B, 0, none⟩ : Addr).add j) = some u := by
  intro j u hj
  match j, hj with
  | 0, hj => simp at hj; subst hj; simp [Addr.add, cell_of hb]
  | 1, hj => simp at hj; subst hj; simp [Addr.add, cell_of hb]

theorem pintern_done {w1 w4 : World} {mb : Nat} {va qa : Option Addr} {vc qc : Nat} {k : Int × Int} (h : PoolP w p room ks S mb va vc) (hi : k ∉ ks) (hf : ks.length < room) (hmn : MapL Tryd.prog 28 w1 mb (entsP (ks ++ [k]))) (hu1 : Upto S w w1)
    (hb4 : w4.heap[p]? = some (.cells #[.int .i64 room, .map (some mb), .slice va ks.length vc] 75 (0, 0)))
    (hg4 : Grew (w1.alloc (.cells #[.int .i8 k.1, .int .i8 k.2] 28)).drew w4 28 2 (.slice va ks.length vc) (.slice qa (ks.length + 1) qc) (ks.length + 1) (flat ks ++ [.int .i8 k.1, .int .i8 k.2])) :
    ∃ S', PairX (w4.setCell ⟨p, 2, none⟩ (.slice qa (ks.length + 1) qc)) p room (ks ++ [k]) S' ∧ Within w S S' ∧ Upto S w (w4.setCell ⟨p, 2, none⟩ (.slice qa (ks.length + 1) qc)) := by
  have z1 := hu1.size
  have u14 : Upto (Value.slice va ks.length vc).ownBlock.toList w1 w4 := ((((Upto.refl [] w1).alloc (.cells #[.int .i8 k.1, .int .i8 k.2] 28)).drew).mono (by simp)).trans_same hg4.up
  have hmw4 : MapL Tryd.prog 28 w4 mb (entsP (ks ++ [k])) := hmn.upto u14 (fun hm => by
    obtain ⟨cur, hh⟩ := ownsRow_block h.row (Option.mem_toList.1 hm)
    obtain ⟨es, c, hx, _⟩ := h.map
    rw [hh] at hx
    cases hx)
  have hne : p ≠ mb := by
    rintro rfl
    obtain ⟨es, c, hx, _⟩ := hmw4
    rw [hb4] at hx
    cases hx
  have hneq : ∀ g, (Value.slice qa (ks.length + 1) qc).ownBlock = some g → g ≠ p := fun g hg he => by
    subst he
    exact row_ne hg4.row (Option.mem_toList.2 hg) hb4 (by decide)
  have u4 : Upto S w w4 := hu1.trans_same (u14.mono (fun g hg => by rw [h.foot]; exact List.mem_cons_of_mem _ (List.mem_cons_of_mem _ hg)))
  refine ⟨p :: mb :: (Value.slice qa (ks.length + 1) qc).ownBlock.toList, ⟨mb, qa, qc, ?_, hmw4.of_block (set_other rfl (Ne.symm hne) _ _), ?_, ?_, ?_, ?_, h.room⟩, ?_, u4.setCell (Or.inl (by rw [h.foot]; simp)) _⟩
  · rw [set_same hb4]
    simp
  · have := ownsRow_of_block hg4.row (fun g hg => set_other (p := p) rfl (hneq g hg) 2 (.slice qa (ks.length + 1) qc))
    have e : flat (ks ++ [k]) = flat ks ++ [.int .i8 k.1, .int .i8 k.2] := by simp [flat]
    rw [e]
    simpa using this
  · simp
  · exact List.nodup_append.2 ⟨h.nodup, by simp, by intro x hx y hy; simp at hy; subst hy; intro he; subst he; exact hi hx⟩
  · simp; omega
  · intro g hg
    simp only [List.mem_cons, Option.mem_toList] at hg
    rcases hg with rfl | rfl | hg
    · left; rw [h.foot]; simp
    · left; rw [h.foot]; simp
    · rcases hg4.own g hg with h1 | h1
      · left; rw [h.foot]; simp [h1]
      · right
        simp at h1
        omega

set_option maxRecDepth 100000 in
set_option maxHeartbeats 1600000 in
theorem pintern_new (h : PairX w p room ks S) (k : Int × Int) (h1 : I8 k.1) (h2 : I8 k.2) (hi : k ∉ ks) (hf : ks.length < room) :
    Calls Tryd.prog 12 #[.pointer (some ⟨p, 0, none⟩), kv k] w fun e w' => e = .returned (.tuple #[.int .i64 ks.length, .int .i64 0]) ∧
      ∃ S', PairX w' p room (ks ++ [k]) S' ∧ Within w S S' ∧ Upto S w w' := by
  obtain ⟨mb, va, vc, h⟩ := h
  obtain ⟨l, hk⟩ := keyP k h1 h2
  have c0 := cell_of h.blk 0
  have c1 := cell_of h.blk 1
  have c2 := cell_of h.blk 2
  simp at c0 c1 c2
  have hpw := lt_of_heap h.blk
  have hl : ∀ n, (Instr.lookup 73 (.map (some mb)) (kv k) true).run Tryd.prog ((w.alloc (.cells #[.int .i8 k.1, .int .i8 k.2] 28)).drewN n) = .ok (.tuple #[.int .i64 0, .bool false]) ((w.alloc (.cells #[.int .i8 k.1, .int .i8 k.2] 28)).drewN n) := fun n => by
    rcases (h.map.upto (((Upto.refl [] w).alloc (.cells #[.int .i8 k.1, .int .i8 k.2] 28)).drewN n) (by simp)).look lawP Tryd.underlying73 (zeroI _) hk true with ⟨h1, _⟩ | ⟨v, hv, hr⟩
    · exact h1
    · obtain ⟨j, hj, rfl⟩ := entsP_mem hv
      exact absurd (List.mem_of_getElem? hj) hi
  have hr := h.room
  have hlt : decide (room ≤ ks.length) = false := by simp; omega
  obtain ⟨i0, hi0, hz0, hz1, hz2⟩ := info_parts infoP
  have hknew := Lib.hid (entsP_new hi)
  have happ := Lib.hid (entsP_app ks k)
  obtain ⟨a, b⟩ := k
  unfold kv at hl ⊢
  go_enter Tryd.func12, Tryd.ntmps12
  go_wp2
  go_quiet (fail)
  clear hl c0 c1 c2
  have hua : Upto [] w ((w.alloc (.cells #[.int .i8 a, .int .i8 b] 28)).drewN nq) := ((Upto.refl _ _).alloc _).drewN _
  have ba := hua.at h.blk (by simp)
  have bk : ((w.alloc (.cells #[.int .i8 a, .int .i8 b] 28)).drewN nq).heap[w.heap.size]? = some (.cells #[.int .i8 a, .int .i8 b] 28 (0, 0)) := new_at w _
  generalize (w.alloc (.cells #[.int .i8 a, .int .i8 b] 28)).drewN nq = wa at *
  have c0 := cell_of ba 0
  have c1 := cell_of ba 1
  have c2 := cell_of ba 2
  have d0 := cell_of bk 0
  have d1 := cell_of bk 1
  simp at c0 c1 c2 d0 d1
  go_wp2
  go_quiet (fail)
  go_wp2
  have hub := hua.drewN nq
  have bb : (wa.drewN nq).heap[p]? = _ := ba
  have bl : (wa.drewN nq).heap[w.heap.size]? = _ := bk
  clear c0 c1 c2 d0 d1 ba bk hua
  generalize wa.drewN nq = wb at *
  have hm0 := h.map.upto hub (by simp)
  have ho0 := ownsRow_upto h.row hub (by simp)
  have c0 := cell_of bb 0
  have c1 := cell_of bb 1
  have c2 := cell_of bb 2
  have d0 := cell_of bl 0
  have d1 := cell_of bl 1
  simp at c0 c1 c2 d0 d1
  go_still_tail 10, (by kernel_rfl)
  change wpList _ _ _ _ _ wb.drew
  have hne : p ≠ mb := by
    rintro rfl
    obtain ⟨es, c, h1, _⟩ := hm0
    rw [bb] at h1
    cases h1
  have hne2 : w.heap.size ≠ mb := by
    have := h.map.lt
    omega
  refine wpList_insert _ rfl _ _ _ 73 rfl 28 3 lawP Tryd.underlying73 mb (entsP ks) rfl hm0 (.agg #[.int .i8 a, .int .i8 b]) (.int .i64 ks.length) _ rfl rfl hk hknew.out ?_
  intro w1 hm1 hg1
  have hmn : MapL Tryd.prog 28 w1 mb (entsP (ks ++ [(a, b)])) := by rw [happ.out]; exact hm1
  clear hm1
  have hb1 : w1.heap[p]? = some (.cells #[.int .i64 room, .map (some mb), .slice va ks.length vc] 75 (0, 0)) := (hg1.block p (lt_of_heap (w := wb) bb) (by simpa using hne)).trans bb
  have hl1 : w1.heap[w.heap.size]? = some (.cells #[.int .i8 a, .int .i8 b] 28 (0, 0)) := (hg1.block _ (lt_of_heap (w := wb) bl) (by simpa using hne2)).trans bl
  have ho1 := (ho0.drew).kept hg1 (Or.inr (fun he => by
    obtain ⟨cur, hh⟩ := ownsRow_block ho0 he
    obtain ⟨es, c, h1, _⟩ := hm0
    rw [hh] at h1
    cases h1))
  have hu1 : Upto S w w1 := (hub.mono (by simp)).drew.grown hg1 (by intro k hk; cases hk; left; rw [h.foot]; simp)
  have e2 := cell_of hb1 2
  have x0 := cell_of hl1 0
  have x1 := cell_of hl1 1
  simp at e2 x0 x1
  have hz1w := lt_of_heap hb1
  have hz2w := lt_of_heap hl1
  clear hm0 ho0 c0 c1 c2 d0 d1 bb bl
  go_wp2
  go_region_law (first
      | (refine step_app _ (by rfl) (.tmp 45) (.tmp 47) 22 (by rfl) 28 i0 (.agg #[.int .i8 0, .int .i8 0]) 2 2 Tryd.underlying22 hi0 hz0 hz1 hz2 rfl (by decide) _ _ _ (by rfl) (ho1.drew.alloc _) ⟨w1.heap.size, 0, none⟩ 1 1 [.int .i8 a, .int .i8 b] (by rfl) (by rfl) (two_at (new_at _ _)) (by simp [Value.oneCell']) (by unfold maxLen; omega) (by omega) ?_; intro qa qc w4 hg4; have hb4 := hg4.up.at (alloc_old (w := w1.drew) hb1 _) (fun hm => row_ne ho1 hm hb1 (by decide)); have k4 := cell_of hb4 2; have f4 := free_of hb4 2; simp at k4))
  all_goals
    go_wp2
    go_ret2
    exact ⟨rfl, pintern_done h hi hf hmn hu1 hb4 hg4⟩

theorem PairX.lt (h : PairX w p room ks S) : ∀ k ∈ S, k < w.heap.size := by
  obtain ⟨mb, va, vc, h⟩ := h
  intro k hk
  rw [h.foot] at hk
  simp only [List.mem_cons, Option.mem_toList] at hk
  rcases hk with rfl | rfl | hk
  · exact lt_of_heap h.blk
  · exact h.map.lt
  · obtain ⟨cur, hh⟩ := ownsRow_block h.row hk
    exact lt_of_heap hh

set_option maxHeartbeats 400000 in
theorem pnew_calls (n : Nat) (hn : n ≤ 1048576) (w : World) :
    Calls Tryd.prog 10 #[.int .i64 n] w fun e w' => ∃ p S, e = .returned (.tuple #[.pointer (some ⟨p, 0, none⟩), .int .i64 0]) ∧ PairX w' p n [] S ∧ Within w [] S ∧ Upto [] w w' := by
  have hmm := @run_makeMap Tryd.prog
  go_enter Tryd.func10, Tryd.ntmps10
  go_wp2
  go_ret2
  have hu : Upto [] w ((w.alloc (.map #[] 0)).alloc (.cells #[.int .i64 n, .map (some w.heap.size), .slice none 0 0] 75)) := ((Upto.refl _ _).alloc _).alloc _
  refine ⟨w.heap.size + 1, [w.heap.size + 1, w.heap.size], rfl, ⟨w.heap.size, none, 0, ?_⟩, ?_, hu⟩
  · refine ⟨?_, ?_, World.ownsRow_nil _ _ _ _, rfl, by simp, by simp, hn⟩
    · simpa using heap_alloc_new (w.alloc (.map #[] 0)) (.cells #[.int .i64 n, .map (some w.heap.size), .slice none 0 0] 75)
    · exact (MapL.made Tryd.prog 28 w).upto ((Upto.refl [] _).alloc _) (by simp)
  · intro k hk
    simp at hk
    omega

set_option maxHeartbeats 400000 in
theorem plen_calls (h : PairX w p room ks S) :
    Calls Tryd.prog 13 #[.pointer (some ⟨p, 0, none⟩)] w fun e w' => e = .returned (.int .i64 ks.length) ∧ w = w' := by
  obtain ⟨mb, va, vc, h⟩ := h
  have c2 := cell_of h.blk 2
  simp at c2
  go_enter Tryd.func13, Tryd.ntmps13
  go_wp2
  go_ret
  exact ⟨rfl, rfl⟩
end
end Go.Proofs.YtffnkjlobflhcaaDoor
