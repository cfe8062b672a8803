/- The pool of strings: New, Intern, Find, Len, Key. -/
import Derived.Test.YtffnkjlobflhcaaDoorLib
import Derived.StillTailTactics
import Derived.Deep.QuietTactic
import Derived.BigQuiet
namespace Go.Proofs.YtffnkjlobflhcaaDoor
open Go.RowKit Go.PL Go.Maps

theorem lawS : Keyed Tryd.prog 9 := string_keyed Tryd.underlying9
theorem zeroI (w : World) : (zeroValue 3).run Tryd.prog w = .ok (.int .i64 0) w := by kernel_rfl
theorem infoS : (Tryd.prog.info? 9).map (fun i => (i.zero, i.size, i.bytes)) = some (some (.string ⟨#[]⟩), 1, 16) := by kernel_rfl

/-- the entries of the map: key i has number i -/
def ents (ks : List ByteArray) : List (Value × Value) := ks.zipIdx.map fun p => (.string p.1, .int .i64 p.2)

theorem ents_app (ks : List ByteArray) (k : ByteArray) : ents (ks ++ [k]) = ents ks ++ [(.string k, .int .i64 ks.length)] := by
  simp [ents, List.zipIdx_append]

theorem ents_mem {ks : List ByteArray} {k : ByteArray} {v : Value} (h : (Value.string k, v) ∈ ents ks) : ∃ i : Nat, ks[i]? = some k ∧ v = .int .i64 i := by
  obtain ⟨⟨s, i⟩, hp, he⟩ := List.mem_map.1 h
  simp only [Prod.mk.injEq, Value.string.injEq] at he
  obtain ⟨rfl, rfl⟩ := he
  exact ⟨i, by simpa [List.mk_mem_zipIdx_iff_getElem?] using hp, rfl⟩

theorem ents_not {ks : List ByteArray} {k : ByteArray} (h : ∀ p ∈ ents ks, p.1 ≠ .string k) : k ∉ ks := by
  intro hm
  obtain ⟨i, hi⟩ := List.mem_iff_getElem?.1 hm
  exact h (.string k, .int .i64 i) (List.mem_map.2 ⟨(k, i), by simpa [List.mk_mem_zipIdx_iff_getElem?] using hi, rfl⟩) rfl

theorem ents_new {ks : List ByteArray} {k : ByteArray} (h : k ∉ ks) : ∀ p ∈ ents ks, p.1 ≠ .string k := by
  intro p hp he
  obtain ⟨⟨s, i⟩, hm, rfl⟩ := List.mem_map.1 hp
  simp only [Value.string.injEq] at he
  subst he
  have : ks[i]? = some s := by simpa [List.mk_mem_zipIdx_iff_getElem?] using hm
  exact h (List.mem_of_getElem? this)

structure PoolS (w : World) (p room : Nat) (ks : List ByteArray) (S : List Nat) (mb : Nat) (sv : Value) : Prop where
  blk : w.heap[p]? = some (.cells #[.int .i64 room, .map (some mb), sv] 80 (0, 0))
  map : MapL Tryd.prog 9 w mb (ents ks)
  row : w.ownsRow 0 9 1 sv ks.length (ks.map .string)
  foot : S = p :: mb :: sv.ownBlock.toList
  nodup : ks.Nodup
  le : ks.length ≤ room
  room : room ≤ 1048576
  sizes : ∀ k ∈ ks, k.size ≤ maxLen

section
variable {w : World} {p room : Nat} {ks : List ByteArray} {S : List Nat} {mb : Nat} {sv : Value}

set_option maxHeartbeats 400000 in
theorem intern_hit (h : PoolS w p room ks S mb sv) (k : ByteArray) (hk : k.size ≤ maxLen) (i : Nat) (hi : ks[i]? = some k) :
    Calls Tryd.prog 18 #[.pointer (some ⟨p, 0, none⟩), .string k] w fun e w' => e = .returned (.tuple #[.int .i64 i, .int .i64 0]) ∧ w = w' := by
  have c1 := cell_of h.blk 1
  simp at c1
  have hl : (Instr.lookup 78 (.map (some mb)) (.string k) true).run Tryd.prog w = .ok (.tuple #[.int .i64 i, .bool true]) w := by
    rcases h.map.look lawS Tryd.underlying78 (zeroI w) (keyS Tryd.underlying9 hk) true with ⟨_, h2⟩ | ⟨v, hv, hr⟩
    · exact absurd (List.mem_of_getElem? hi) (ents_not h2)
    · obtain ⟨j, hj, rfl⟩ := ents_mem hv
      obtain rfl : i = j := by
        have := (List.getElem?_inj (i := i) (j := j) (by exact (List.getElem?_eq_some_iff.1 hi).1) h.nodup).1 (by rw [hi, hj])
        exact this
      exact hr
  go_enter Tryd.func18, Tryd.ntmps18
  go_wp2
  go_ret2
  exact ⟨rfl, rfl⟩

set_option maxHeartbeats 400000 in
theorem intern_full (h : PoolS w p room ks S mb sv) (k : ByteArray) (hk : k.size ≤ maxLen) (hi : k ∉ ks) (hf : ks.length = room) :
    Calls Tryd.prog 18 #[.pointer (some ⟨p, 0, none⟩), .string k] w fun e w' => e = .returned (.tuple #[.int .i64 0, .int .i64 8]) ∧ ∃ n, w' = w.drewN n := by
  have c0 := cell_of h.blk 0
  have c1 := cell_of h.blk 1
  have c2 := cell_of h.blk 2
  simp at c0 c1 c2
  obtain ⟨sa, sc, hsv, _⟩ := ownsRow_len h.row
  rw [hsv] at c2
  have hl : (Instr.lookup 78 (.map (some mb)) (.string k) true).run Tryd.prog w = .ok (.tuple #[.int .i64 0, .bool false]) w := by
    rcases h.map.look lawS Tryd.underlying78 (zeroI w) (keyS Tryd.underlying9 hk) true with ⟨h1, _⟩ | ⟨v, hv, hr⟩
    · exact h1
    · obtain ⟨j, hj, rfl⟩ := ents_mem hv
      exact absurd (List.mem_of_getElem? hj) hi
  have hr := h.room
  have hle : (room : Int) ≤ ks.length := by omega
  clear hsv hf
  go_enter Tryd.func18, Tryd.ntmps18
  go_wp2
  go_quiet (fail)
  go_wp2
  go_ret2
  exact ⟨rfl, _, rfl⟩

set_option maxRecDepth 100000 in
set_option maxHeartbeats 800000 in
theorem intern_new (h : PoolS w p room ks S mb sv) (k : ByteArray) (hk : k.size ≤ maxLen) (hi : k ∉ ks) (hf : ks.length < room) :
    Calls Tryd.prog 18 #[.pointer (some ⟨p, 0, none⟩), .string k] w fun e w' => e = .returned (.tuple #[.int .i64 ks.length, .int .i64 0]) ∧
      ∃ S' sv', PoolS w' p room (ks ++ [k]) S' mb sv' ∧ Within w S S' ∧ Upto S w w' := by
  have c0 := cell_of h.blk 0
  have c1 := cell_of h.blk 1
  have c2 := cell_of h.blk 2
  simp at c0 c1 c2
  obtain ⟨sa, sc, hsv, _⟩ := ownsRow_len h.row
  have Hsv := Lib.hid hsv
  rw [hsv] at c2
  have hl : (Instr.lookup 78 (.map (some mb)) (.string k) true).run Tryd.prog w = .ok (.tuple #[.int .i64 0, .bool false]) w := by
    rcases h.map.look lawS Tryd.underlying78 (zeroI w) (keyS Tryd.underlying9 hk) true with ⟨h1, _⟩ | ⟨v, hv, hr⟩
    · exact h1
    · obtain ⟨j, hj, rfl⟩ := ents_mem hv
      exact absurd (List.mem_of_getElem? hj) hi
  have hr := h.room
  have hlt : decide (room ≤ ks.length) = false := by simp; omega
  obtain ⟨i0, hi0, hz0, hz1, hz2⟩ := info_parts infoS
  have hown := h.row
  rw [hsv] at hown
  clear hsv
  go_enter Tryd.func18, Tryd.ntmps18
  go_wp2
  go_quiet (fail)
  go_wp2
  have d1 : (w.drewN nq).cell? ⟨p, 1, none⟩ = some (.map (some mb)) := c1
  have d2 : (w.drewN nq).cell? ⟨p, 2, none⟩ = some (.slice sa ks.length sc) := c2
  have hu0 : Upto [] w (w.drewN nq) := (Upto.refl _ _).drewN _
  have hm0 := h.map.upto hu0 (by simp)
  have hb0 : (w.drewN nq).heap[p]? = some (.cells #[.int .i64 room, .map (some mb), sv] 80 (0, 0)) := h.blk
  have ho0 : (w.drewN nq).ownsRow 0 9 1 (Value.slice sa ks.length sc) ks.length (List.map Value.string ks) := hown
  generalize w.drewN nq = wq at *
  go_still_tail 10, (by kernel_rfl)
  change wpList _ _ _ _ _ wq.drew
  have hne : p ≠ mb := by
    rintro rfl
    obtain ⟨es, c, h1, _⟩ := hm0
    rw [hb0] at h1
    cases h1
  refine wpList_insert _ rfl _ _ _ 78 rfl 9 3 lawS Tryd.underlying78 mb (ents ks) rfl hm0 (.string k) (.int .i64 ks.length) _ rfl rfl (keyS Tryd.underlying9 hk) (ents_new hi) ?_
  intro w1 hm1 hg1
  rw [← ents_app] at hm1
  have hb1 : w1.heap[p]? = some (.cells #[.int .i64 room, .map (some mb), sv] 80 (0, 0)) := (hg1.block p (by exact (Array.getElem?_eq_some_iff.1 hb0).1) (by simpa using hne)).trans hb0
  have e2 : w1.cell? ⟨p, 2, none⟩ = some (.slice sa ks.length sc) := by rw [cell_of hb1, ← Hsv.out]; rfl
  have ho1 := (ho0.drew).kept hg1 (Or.inr (fun he => by
    obtain ⟨cur, hh⟩ := ownsRow_block ho0 he
    obtain ⟨es, c, h1, _⟩ := hm0
    rw [hh] at h1
    cases h1))
  have hu1 : Upto S w w1 := (hu0.mono (by simp)).drew.grown hg1 (by intro k hk; cases hk; left; rw [h.foot]; simp)
  go_wp2_with (at_builtin; refine wpList_app _ rfl _ _ 35 rfl 9 i0 (.string ⟨#[]⟩) 1 16 Tryd.underlying35 hi0 hz0 hz1 hz2 rfl (by decide) _ _ _ rfl (ho1.alloc _) ⟨w1.heap.size, 0, none⟩ 1 1 [.string k] rfl rfl one_cell ?c2 ?c3 ?c4 ?_)
  case c2 => intro u hu; simp at hu; subst hu; rfl
  case c3 => unfold maxLen; omega
  case c4 => omega
  intro va vc w2 ho2 hg2 hw2'
  have hb2 : w2.heap[p]? = some (.cells #[.int .i64 room, .map (some mb), sv] 80 (0, 0)) := (hg2.block p (by have := (Array.getElem?_eq_some_iff.1 hb1).1; simp; omega) (fun he => by
    obtain ⟨cur, hh⟩ := ownsRow_block ho1 (Option.mem_toList.1 he)
    rw [hb1] at hh
    cases hh)).trans (by rw [Below.heap_alloc _ _ _ (Array.getElem?_eq_some_iff.1 hb1).1]; exact hb1)
  have f2 : w2.cell? ⟨p, 2, none⟩ = some sv := by rw [cell_of hb2]; rfl
  have f3 : w2.frozen? ⟨p, 2, none⟩ = false := free_of hb2 2
  have hma := hm1.upto ((Upto.refl [] w1).alloc (.cells #[.string k] 9)) (by simp)
  have hm2 : MapL Tryd.prog 9 w2 mb (ents (ks ++ [k])) := hma.of_block (hg2.block mb hma.lt (fun he => by
    obtain ⟨cur, hh⟩ := ownsRow_block ho1 (Option.mem_toList.1 he)
    obtain ⟨es, c, h1, _⟩ := hm1
    rw [hh] at h1
    cases h1))
  have hu2 : Upto S w w2 := (hu1.alloc _).trans hg2 (fun g hg => Or.inl (by rw [h.foot, Hsv.out]; exact List.mem_cons_of_mem _ (List.mem_cons_of_mem _ hg)))
  have hnp : ∀ g, (Value.slice va (ks.length + 1) vc).ownBlock = some g → g ≠ p := fun g hg he => by
    obtain ⟨cur, hh⟩ := ownsRow_block ho2 hg
    rw [he, hb2] at hh
    cases hh
  have hw2 : ∀ g, (Value.slice va (ks.length + 1) vc).ownBlock = some g → g ∈ S ∨ w.heap.size ≤ g := fun g hg => by
    rcases hw2' g hg with h1 | h1
    · exact Or.inl (by rw [h.foot, Hsv.out]; simp [h1])
    · have := hu1.size
      omega
  clear hm0 hb0 ho0 ho1 d1 d2 c0 c1 c2 e2 hl hma
  go_wp2
  go_ret2
  refine ⟨rfl, p :: mb :: (Value.slice va (ks.length + 1) vc).ownBlock.toList, .slice va (ks.length + 1) vc, ⟨?_, hm2.of_block (set_other rfl (Ne.symm hne) _ _), ?_, rfl, ?_, ?_, h.room, ?_⟩, ?_, hu2.setCell (Or.inl (by rw [h.foot]; simp)) _⟩
  · rw [set_same hb2]; rfl
  · simpa using ownsRow_of_block ho2 (fun g hg => set_other rfl (hnp g hg) _ _)
  · exact List.nodup_append.2 ⟨h.nodup, by simp, by simp; rintro x hx rfl; exact hi hx⟩
  · simp; omega
  · simp; rintro x (hx | rfl); exact h.sizes x hx; exact hk
  · intro g hg
    simp only [List.mem_cons, Option.mem_toList] at hg
    rcases hg with rfl | rfl | hg
    · left; rw [h.foot]; simp
    · left; rw [h.foot]; simp
    · exact hw2 g hg
end
end Go.Proofs.YtffnkjlobflhcaaDoor
