/- New, Find, Len, Key of the pool of strings; room and few of the law. -/
import Derived.Test.YtffnkjlobflhcaaDoorPool
namespace Go.Proofs.YtffnkjlobflhcaaDoor
open Go.RowKit Go.PL Go.Maps

/-- a pool of strings at p, its blocks S -/
def PoolX (w : World) (p room : Nat) (ks : List ByteArray) (S : List Nat) : Prop := ∃ mb sv, PoolS w p room ks S mb sv

theorem PoolX.upto {w w' : World} {p room : Nat} {ks : List ByteArray} {S T : List Nat} (h : PoolX w p room ks S) (hu : Upto T w w') (hd : ∀ k ∈ S, k ∉ T) : PoolX w' p room ks S := by
  obtain ⟨mb, sv, h⟩ := h
  have hf := h.foot
  refine ⟨mb, sv, ⟨(hu.block p (lt_of_heap h.blk) (hd p (by rw [hf]; simp))).trans h.blk, h.map.upto hu (hd mb (by rw [hf]; simp)), ownsRow_upto h.row hu (fun g hg => hd g (by rw [hf]; simp [hg])), hf, h.nodup, h.le, h.room, h.sizes⟩⟩

theorem PoolX.lt {w : World} {p room : Nat} {ks : List ByteArray} {S : List Nat} (h : PoolX w p room ks S) : ∀ k ∈ S, k < w.heap.size := by
  obtain ⟨mb, sv, h⟩ := h
  intro k hk
  rw [h.foot] at hk
  simp only [List.mem_cons, Option.mem_toList] at hk
  rcases hk with rfl | rfl | hk
  · exact lt_of_heap h.blk
  · exact h.map.lt
  · obtain ⟨cur, hh⟩ := ownsRow_block h.row hk
    exact lt_of_heap hh

theorem PoolX.drewN {w : World} {p room : Nat} {ks : List ByteArray} {S : List Nat} (h : PoolX w p room ks S) (n : Nat) : PoolX (w.drewN n) p room ks S := h.upto ((Upto.refl [] w).drewN n) (by simp)

/-- the place of a key -/
def idx (ks : List ByteArray) (k : ByteArray) : Option Nat := ks.findIdx? (fun x => decide (x = k))
theorem idx_some {ks : List ByteArray} {k : ByteArray} {i : Nat} (h : idx ks k = some i) : ks[i]? = some k := by
  unfold idx at h
  rw [List.findIdx?_eq_some_iff_getElem] at h
  obtain ⟨hl, he, _⟩ := h
  simp at he
  rw [List.getElem?_eq_getElem hl, he]
theorem idx_none {ks : List ByteArray} {k : ByteArray} (h : idx ks k = none) : k ∉ ks := by
  unfold idx at h
  rw [List.findIdx?_eq_none_iff] at h
  intro hm
  simpa using h k hm
theorem idx_not {ks : List ByteArray} {k : ByteArray} (h : k ∉ ks) : idx ks k = none := by
  unfold idx
  rw [List.findIdx?_eq_none_iff]
  intro x hx
  simp
  rintro rfl
  exact h hx

/-- what Intern does: the keys, the id, the error -/
def internF (room : Nat) (ks : List ByteArray) (k : ByteArray) : List ByteArray × Nat × Nat :=
  match idx ks k with
  | some i => (ks, i, 0)
  | none => if room ≤ ks.length then (ks, 0, 8) else (ks ++ [k], ks.length, 0)

section
variable {w : World} {p room : Nat} {ks : List ByteArray} {S : List Nat}

theorem intern_calls (h : PoolX w p room ks S) (k : ByteArray) (hk : k.size ≤ maxLen) :
    Calls Tryd.prog 18 #[.pointer (some ⟨p, 0, none⟩), .string k] w fun e w' => e = .returned (.tuple #[.int .i64 (internF room ks k).2.1, .int .i64 (internF room ks k).2.2]) ∧
      ∃ S', PoolX w' p room (internF room ks k).1 S' ∧ Within w S S' ∧ Upto S w w' := by
  obtain ⟨mb, sv, h⟩ := h
  unfold internF
  cases hi : idx ks k with
  | some i => exact (intern_hit h k hk i (idx_some hi)).mono fun e w' ⟨he, hw⟩ => by subst hw; exact ⟨he, S, ⟨mb, sv, h⟩, Within.refl _ _, Upto.refl _ _⟩
  | none =>
    by_cases hr : room ≤ ks.length
    · rw [if_pos hr]
      exact (intern_full h k hk (idx_none hi) (by have := h.le; omega)).mono fun e w' ⟨he, n, hw⟩ => by subst hw; exact ⟨he, S, PoolX.drewN ⟨mb, sv, h⟩ n, Within.refl _ _, (Upto.refl _ _).drewN _⟩
    · rw [if_neg hr]
      exact (intern_new h k hk (idx_none hi) (by omega)).mono fun e w' ⟨he, S', sv', h1, h2, h3⟩ => ⟨he, S', ⟨mb, sv', h1⟩, h2, h3⟩

set_option maxHeartbeats 400000 in
theorem new_calls (n : Nat) (hn : n ≤ 1048576) (w : World) :
    Calls Tryd.prog 15 #[.int .i64 n] w fun e w' => ∃ p S, e = .returned (.tuple #[.pointer (some ⟨p, 0, none⟩), .int .i64 0]) ∧ PoolX w' p n [] S ∧ Within w [] S ∧ Upto [] w w' := by
  have hmm := @run_makeMap Tryd.prog
  go_enter Tryd.func15, Tryd.ntmps15
  go_wp2
  go_ret2
  have hu : Upto [] w ((w.alloc (.map #[] 0)).alloc (.cells #[.int .i64 n, .map (some w.heap.size), .slice none 0 0] 80)) := ((Upto.refl _ _).alloc _).alloc _
  refine ⟨w.heap.size + 1, [w.heap.size + 1, w.heap.size], rfl, ⟨w.heap.size, .slice none 0 0, ?_⟩, ?_, hu⟩
  · refine ⟨?_, ?_, World.ownsRow_nil _ _ _ _, rfl, by simp, by simp, hn, by simp⟩
    · simpa using heap_alloc_new (w.alloc (.map #[] 0)) (.cells #[.int .i64 n, .map (some w.heap.size), .slice none 0 0] 80)
    · exact (MapL.made Tryd.prog 9 w).upto ((Upto.refl [] _).alloc _) (by simp)
  · intro k hk
    simp at hk
    omega

set_option maxHeartbeats 400000 in
theorem len_calls (h : PoolX w p room ks S) :
    Calls Tryd.prog 22 #[.pointer (some ⟨p, 0, none⟩)] w fun e w' => e = .returned (.int .i64 ks.length) ∧ w = w' := by
  obtain ⟨mb, sv, h⟩ := h
  obtain ⟨sa, sc, hsv, _⟩ := ownsRow_len h.row
  have c2 := cell_of h.blk 2
  simp at c2
  rw [hsv] at c2
  clear hsv
  go_enter Tryd.func22, Tryd.ntmps22
  go_wp2
  go_ret
  exact ⟨rfl, rfl⟩

/-- what Find gives -/
def findF (ks : List ByteArray) (k : ByteArray) : Nat × Bool := match idx ks k with | some i => (i, true) | none => (0, false)

set_option maxHeartbeats 400000 in
theorem find_calls (h : PoolX w p room ks S) (k : ByteArray) (hk : k.size ≤ maxLen) :
    Calls Tryd.prog 20 #[.pointer (some ⟨p, 0, none⟩), .string k] w fun e w' => e = .returned (.tuple #[.int .i64 (findF ks k).1, .bool (findF ks k).2]) ∧ w = w' := by
  obtain ⟨mb, sv, h⟩ := h
  have c1 := cell_of h.blk 1
  simp at c1
  have hl : (Instr.lookup 78 (.map (some mb)) (.string k) true).run Tryd.prog w = .ok (.tuple #[.int .i64 (findF ks k).1, .bool (findF ks k).2]) w := by
    unfold findF
    rcases h.map.look lawS Tryd.underlying78 (zeroI w) (keyS Tryd.underlying9 hk) true with ⟨h1, h2⟩ | ⟨v, hv, hr⟩
    · have : idx ks k = none := idx_not (ents_not h2)
      rw [this]
      exact h1
    · obtain ⟨j, hj, rfl⟩ := ents_mem hv
      cases hi : idx ks k with
      | none => exact absurd (List.mem_of_getElem? hj) (idx_none hi)
      | some i =>
        obtain rfl : i = j := (List.getElem?_inj (by exact (List.getElem?_eq_some_iff.1 (idx_some hi)).1) h.nodup).1 (by rw [idx_some hi, hj])
        exact hr
  generalize findF ks k = r at *
  go_enter Tryd.func20, Tryd.ntmps20
  go_wp2
  go_ret2
  exact ⟨rfl, rfl⟩

set_option maxHeartbeats 400000 in
theorem key_in (h : PoolX w p room ks S) (i : Nat) (k : ByteArray) (hi : ks[i]? = some k) :
    Calls Tryd.prog 35 #[.pointer (some ⟨p, 0, none⟩), .int .i64 i] w fun e w' => e = .returned (.tuple #[.string k, .bool true]) ∧ w = w' := by
  obtain ⟨mb, sv, h⟩ := h
  have c2 := cell_of h.blk 2
  simp at c2
  have hlt : i < ks.length := (List.getElem?_eq_some_iff.1 hi).1
  rcases SlC.of_row h.row with ⟨h0, _⟩ | ⟨g, o, c, hsv, hc⟩
  · simp at h0; rw [h0] at hlt; simp at hlt
  · rw [hsv] at c2
    simp only [List.length_map] at c2
    have hg := hc i (.string k) (by simp [hi])
    have hr := h.room
    have hle := h.le
    have d1 : decide (ks.length ≤ i) = false := by simp; omega
    have HK : Hid (ks[i]'hlt = k) := (List.getElem?_eq_some_iff.1 hi).2
    have HI := Lib.hid hi
    clear hsv hi
    go_enter Tryd.func35, Tryd.ntmps35
    go_wp2
    go_ret2
    exact ⟨by show Ending.returned (.tuple #[.string (ks[i]), .bool true]) = _; rw [HK.out], rfl⟩

set_option maxHeartbeats 400000 in
theorem key_out (h : PoolX w p room ks S) (i : Int) (hi : i < 0 ∨ (ks.length : Int) ≤ i) :
    Calls Tryd.prog 35 #[.pointer (some ⟨p, 0, none⟩), .int .i64 i] w fun e w' => e = .returned (.tuple #[.string ⟨#[]⟩, .bool false]) ∧ w = w' := by
  obtain ⟨mb, sv, h⟩ := h
  have c2 := cell_of h.blk 2
  simp at c2
  obtain ⟨sa, sc, hsv, _⟩ := ownsRow_len h.row
  rw [hsv] at c2
  clear hsv
  rcases hi with hi | hi
  · go_enter Tryd.func35, Tryd.ntmps35
    go_wp2
    go_ret2
    exact ⟨rfl, rfl⟩
  · have h0 : 0 ≤ i := by omega
    go_enter Tryd.func35, Tryd.ntmps35
    go_wp2
    go_ret2
    exact ⟨rfl, rfl⟩
end

set_option maxHeartbeats 400000 in
theorem room_calls (n : Int) (w : World) :
    Calls Tryd.prog 14 #[.int .i64 n] w fun e w' => ∃ r : Nat, r < 30 ∧ e = .returned (.int .i64 r) ∧ w = w' := by
  have h1 : 0 ≤ IntKind.u64.wrap n := by simp [IntKind.wrap, IntKind.signed, IntKind.bits]; omega
  go_enter Tryd.func14, Tryd.ntmps14
  go_wp2
  go_ret
  exact ⟨(IntKind.u64.wrap n % 30).toNat, by omega, ret_int (by omega), rfl⟩

set_option maxHeartbeats 400000 in
theorem few_calls (s : ByteArray) (w : World) (hs : s.size ≤ 140737488351232) :
    Calls Tryd.prog 17 #[.string s] w fun e w' => ∃ r : ByteArray, r.size ≤ 50 ∧ e = .returned (.string r) ∧ w = w' := by
  go_enter Tryd.func17, Tryd.ntmps17
  go_wp2
  · go_ret
    exact ⟨s.extract 0 50, by rw [ByteArray.size_extract]; omega, rfl, rfl⟩
  · go_ret
    exact ⟨_, by omega, rfl, rfl⟩
end Go.Proofs.YtffnkjlobflhcaaDoor
