/- The reference's Find, Id. -/
import Derived.Test.YtffnkjlobflhcaaDoorPool2
namespace Go.Proofs.YtffnkjlobflhcaaDoor
open Go.RowKit Go.PL Go.Maps

theorem beqS (a b : ByteArray) : (a.toList == b.toList) = decide (a = b) := by
  rw [ByteArray.toList_eq, ByteArray.toList_eq]
  by_cases h : a = b
  · simp [h]
  · simp [h]
    exact fun e => h (ByteArray.ext e)

def refFind (ks : List ByteArray) (k : ByteArray) : Int := match idx ks k with | some i => i | none => -1

theorem idx_first {ks : List ByteArray} {k : ByteArray} {i : Nat} (hi : i < ks.length) (hk : ks[i] = k) (hn : ∀ j, (h : j < i) → ks[j]'(by omega) ≠ k) : idx ks k = some i := by
  unfold idx
  rw [List.findIdx?_eq_some_iff_getElem]
  exact ⟨hi, by simp [hk], fun j hj => by simpa using hn j hj⟩

set_option maxHeartbeats 400000 in
theorem rfind_calls (ks : List ByteArray) (k : ByteArray) (room : Int) (v : Value) (w : World) (hv : SlC w v (ks.map .string)) (hl : ks.length ≤ 1048576) :
    Calls Tryd.prog 21 #[.agg #[.int .i64 room, v], .string k] w fun e w' => e = .returned (.int .i64 (refFind ks k)) ∧ Upto [] w w' := by
  obtain ⟨va, vc, hva⟩ := hv.len
  rw [hva] at hv ⊢
  simp only [List.length_map] at hv ⊢
  have hv1 := hv.ext ((Upto.refl [] w).alloc (.cells #[.int .i64 room, .slice va ks.length vc] 38))
  go_enter Tryd.func21, Tryd.ntmps21
  go_wp2
  go_loop [5] (fun i => ∃ n : Nat, n ≤ ks.length ∧ i = .int .i64 n ∧ ∀ j, (h : j < n) → (h' : j < ks.length) → ks[j] ≠ k) (fun i => ks.length - (intOf i).toNat)
  case atStart => exact ⟨0, Nat.zero_le _, rfl, by simp⟩
  case round =>
    obtain ⟨n, hn, rfl, hno⟩ := hrel
    have Hno : Hid (∀ j, (h : j < n) → (h' : j < ks.length) → ks[j] ≠ k) := hno
    clear hno
    by_cases hlt : n < ks.length
    · rcases hv1 with ⟨h0, _⟩ | ⟨g, o, c, hs, hc⟩
      · simp at h0; rw [h0] at hlt; simp at hlt
      · simp only [Value.slice.injEq] at hs
        obtain ⟨rfl, -, rfl⟩ := hs
        have hg := hc n (.string ks[n]) (by simp [hlt])
        have hb := beqS ks[n] k
        by_cases hk : ks[n] = k
        · have hd : (ks[n].toList == k.toList) = true := by rw [beqS]; simpa using hk
          have HR := Lib.hid (idx_first hlt hk (fun j hj => Hno.out j hj (by omega)))
          clear hb
          go_wp2
          go_ret
          refine ⟨ret_int (by unfold refFind; rw [HR.out]), (Upto.refl _ _).alloc _⟩
        · have hd : (ks[n].toList == k.toList) = false := by rw [beqS]; simpa using hk
          have HN := Lib.hid hk
          clear hb hk
          go_wp2
          go_round
          case rel => exact ⟨n + 1, by omega, by go_num, fun j hj h' => by
            by_cases e : j = n
            · subst e; exact HN.out
            · exact Hno.out j (by omega) h'⟩
          case measure => simp [intOf]; omega
    · go_wp2
      go_ret
      refine ⟨ret_int ?_, (Upto.refl _ _).alloc _⟩
      unfold refFind
      rw [idx_not]
      intro hm
      obtain ⟨j, hj, he⟩ := List.getElem_of_mem hm
      exact Hno.out j (by omega) hj he

section
variable (ks : List ByteArray) (k : ByteArray) (room : Nat) (va : Option Addr) (vc : Nat) (w : World)

set_option maxRecDepth 100000 in
set_option maxHeartbeats 800000 in
theorem rid_old (hv : SlC w (.slice va ks.length vc) (ks.map .string)) (hl : ks.length ≤ 1048576) (i : Nat) (hi : idx ks k = some i) :
    Calls Tryd.prog 16 #[.agg #[.int .i64 room, .slice va ks.length vc], .string k] w fun e w' =>
      e = .returned (.tuple #[.agg #[.int .i64 room, .slice va ks.length vc], .int .i64 i, .int .i64 0]) ∧ Upto [] w w' := by
  have hu : Upto [] w ((w.alloc (.cells #[.int .i64 room, .slice va ks.length vc] 38)).alloc (.cells #[.int .i64 0, .slice none 0 0] 38)) := ((Upto.refl _ _).alloc _).alloc _
  have hf := rfind_calls ks k room _ _ (hv.ext hu) hl
  have hrf : refFind ks k = i := by unfold refFind; rw [hi]
  rw [hrf] at hf
  have HF := Lib.hid hf
  clear hf hrf hi
  go_enter Tryd.func16, Tryd.ntmps16
  go_wp2_with fail
  refine HF.out.mono ?_
  rintro e w1 ⟨rfl, hu1⟩
  have b0 := hu1.at (alloc_old (new_at w (.cells #[.int .i64 room, .slice va ks.length vc] 38)) (.cells #[.int .i64 0, .slice none 0 0] 38)) (by simp)
  have b1 := hu1.at (new_at1 w (.cells #[.int .i64 room, .slice va ks.length vc] 38) (.cells #[.int .i64 0, .slice none 0 0] 38)) (by simp)
  have q0 := cell_of b0 0
  have q1 := cell_of b0 1
  have q2 := cell_of b1 0
  have q3 := cell_of b1 1
  have f0 := free_of b1 0
  have f1 := free_of b1 1
  simp at q0 q1 q2 q3
  go_wp2
  refine bodyPost_ret (v := .tuple #[.agg #[.int .i64 room, .slice va ks.length vc], .int .i64 i, .int .i64 0]) (by simp [results, Tryd.results16, go_sem, q0, q1, q2, q3]) rfl ⟨rfl, ?_⟩
  exact ((hu.trans_ext hu1).setCell (Or.inr (by simp)) _).setCell (Or.inr (by simp)) _

set_option maxRecDepth 100000 in
set_option maxHeartbeats 800000 in
theorem rid_full (hv : SlC w (.slice va ks.length vc) (ks.map .string)) (hl : ks.length ≤ 1048576) (hi : idx ks k = none) (hr : room ≤ ks.length) :
    Calls Tryd.prog 16 #[.agg #[.int .i64 room, .slice va ks.length vc], .string k] w fun e w' =>
      e = .returned (.tuple #[.agg #[.int .i64 room, .slice va ks.length vc], .int .i64 0, .int .i64 8]) ∧ Upto [] w w' := by
  have hu : Upto [] w ((w.alloc (.cells #[.int .i64 room, .slice va ks.length vc] 38)).alloc (.cells #[.int .i64 0, .slice none 0 0] 38)) := ((Upto.refl _ _).alloc _).alloc _
  have hf := rfind_calls ks k room _ _ (hv.ext hu) hl
  have hrf : refFind ks k = -1 := by unfold refFind; rw [hi]
  rw [hrf] at hf
  have HF := Lib.hid hf
  have hd : decide (room ≤ ks.length) = true := by simpa using hr
  clear hf hrf hi hr
  go_enter Tryd.func16, Tryd.ntmps16
  go_wp2_with fail
  refine HF.out.mono ?_
  rintro e w1 ⟨rfl, hu1⟩
  have b0 := hu1.at (alloc_old (new_at w (.cells #[.int .i64 room, .slice va ks.length vc] 38)) (.cells #[.int .i64 0, .slice none 0 0] 38)) (by simp)
  have b1 := hu1.at (new_at1 w (.cells #[.int .i64 room, .slice va ks.length vc] 38) (.cells #[.int .i64 0, .slice none 0 0] 38)) (by simp)
  have q0 := cell_of b0 0
  have q1 := cell_of b0 1
  have q2 := cell_of b1 0
  have q3 := cell_of b1 1
  have f0 := free_of b1 0
  have f1 := free_of b1 1
  simp at q0 q1 q2 q3
  go_wp2
  refine bodyPost_ret (v := .tuple #[.agg #[.int .i64 room, .slice va ks.length vc], .int .i64 0, .int .i64 8]) (by simp [results, Tryd.results16, go_sem, q0, q1, q2, q3]) rfl ⟨rfl, ?_⟩
  exact ((hu.trans_ext hu1).setCell (Or.inr (by simp)) _).setCell (Or.inr (by simp)) _

set_option maxRecDepth 100000 in
set_option maxHeartbeats 800000 in
theorem rid_new (hv : SlC w (.slice va ks.length vc) (ks.map .string)) (hl : ks.length ≤ 1048576) (hi : idx ks k = none) (hr : ks.length < room) :
    Calls Tryd.prog 16 #[.agg #[.int .i64 room, .slice va ks.length vc], .string k] w fun e w' =>
      ∃ va' vc', e = .returned (.tuple #[.agg #[.int .i64 room, .slice va' (ks.length + 1) vc'], .int .i64 ks.length, .int .i64 0]) ∧ SlC w' (.slice va' (ks.length + 1) vc') ((ks ++ [k]).map .string) ∧ Upto [] w w' ∧ ∀ g, (Value.slice va' (ks.length + 1) vc').ownBlock = some g → w.heap.size ≤ g := by
  have hu : Upto [] w ((w.alloc (.cells #[.int .i64 room, .slice va ks.length vc] 38)).alloc (.cells #[.int .i64 0, .slice none 0 0] 38)) := ((Upto.refl _ _).alloc _).alloc _
  have hf := rfind_calls ks k room _ _ (hv.ext hu) hl
  have hrf : refFind ks k = -1 := by unfold refFind; rw [hi]
  rw [hrf] at hf
  have HF := Lib.hid hf
  have hd : decide (room ≤ ks.length) = false := by simpa using hr
  clear hf hrf hi hr
  obtain ⟨i0, hi0, hz0, hz1, hz2⟩ := info_parts infoS
  go_enter Tryd.func16, Tryd.ntmps16
  go_wp2_with fail
  refine HF.out.mono ?_
  rintro e w1 ⟨rfl, hu1⟩
  have b0 := hu1.at (alloc_old (new_at w (.cells #[.int .i64 room, .slice va ks.length vc] 38)) (.cells #[.int .i64 0, .slice none 0 0] 38)) (by simp)
  have b1 := hu1.at (new_at1 w (.cells #[.int .i64 room, .slice va ks.length vc] 38) (.cells #[.int .i64 0, .slice none 0 0] 38)) (by simp)
  have q0 := cell_of b0 0
  have q1 := cell_of b0 1
  have q2 := cell_of b1 0
  have q3 := cell_of b1 1
  have f0 := free_of b1 0
  have f1 := free_of b1 1
  have f2 := free_of b0 0
  have f3 := free_of b0 1
  simp at q0 q1 q2 q3
  have hz : w.heap.size + 1 < w1.heap.size := by have := hu1.size; simp at this; omega
  have hz' : w.heap.size < w1.heap.size := by omega
  have hv1 : SlC (w1.alloc (.cells #[] 9)) (.slice va ks.length vc) (ks.map .string) := ((hv.ext hu).ext hu1).ext ((Upto.refl _ _).alloc _)
  have hlen : (ks.map Value.string).length = ks.length := by simp
  have HL := Lib.hid hlen
  clear hlen
  have ho0 : (w1.alloc (.cells #[] 9)).ownsRow 0 9 1 (.slice (some ⟨w1.heap.size, 0, none⟩) 0 0) 0 [] := World.ownsRow_made w1 #[] 0 (Nat.zero_le _) (by decide) rfl
  go_wp2_with (first
    | (at_builtin; refine wpList_apps _ rfl (.tmp 22) (.tmp 24) 35 rfl 9 i0 (.string ⟨#[]⟩) 16 Tryd.underlying35 hi0 hz0 hz1 hz2 rfl (.slice (some ⟨w1.heap.size, 0, none⟩) 0 0) 0 [] rfl ho0 _ _ rfl hv1 (by simp [Value.oneCell']) (by rw [HL.out]; unfold maxLen; omega) (by rw [HL.out]; omega) ?_; intro b2 n2 w2 ho2 hg2 hw2; simp only [HL.out, Nat.zero_add, List.nil_append] at ho2 hw2 ⊢; have c0 := hg2.at (alloc_old b0 _) (by simp [Value.ownBlock]; omega); have c1 := hg2.at (alloc_old b1 _) (by simp [Value.ownBlock]; omega); have hz2' : w.heap.size < w2.heap.size := lt_of_heap c0; have hz2'' : w.heap.size + 1 < w2.heap.size := lt_of_heap c1)
    | (at_builtin; refine wpList_app _ rfl (.tmp 25) (.tmp 27) 35 rfl 9 i0 (.string ⟨#[]⟩) 1 16 Tryd.underlying35 hi0 hz0 hz1 hz2 rfl (by decide) _ _ _ rfl (ho2.alloc _) ⟨w2.heap.size, 0, none⟩ 1 1 [.string k] rfl rfl one_cell (by simp [Value.oneCell']) (by unfold maxLen; omega) (by omega) ?_; intro b3 n3 w3 ho3 hg3 hw3; have d0 := hg3.at (alloc_old c0 _) (fun hm => row_ne ho2 hm c0 (by decide)); have d1 := hg3.at (alloc_old c1 _) (fun hm => row_ne ho2 hm c1 (by decide)); have r0 := cell_of d0 0; have r1 := cell_of d0 1; have r2 := cell_of d1 0; have r3 := cell_of d1 1; have s1 := free_of d0 1; have s2 := free_of d1 0; have s3 := free_of d1 1; simp at r0 r1 r2 r3))
  have x0 := set_same d0 1 (.slice b3 (ks.length + 1) n3)
  have x1 := set_other d1 (p := w.heap.size) (by omega) 1 (.slice b3 (ks.length + 1) n3)
  have hro : (w3.setCell ⟨w.heap.size, 1, none⟩ (.slice b3 (ks.length + 1) n3)).ownsRow 0 9 1 (.slice b3 (ks.length + 1) n3) (ks.length + 1) ((ks ++ [k]).map .string) := by
    have := ownsRow_of_block ho3 (fun g hg => set_other (p := w.heap.size) rfl (by rintro rfl; exact row_ne ho3 (Option.mem_toList.2 hg) d0 (by decide)) 1 (.slice b3 (ks.length + 1) n3))
    simpa using this
  have hut : Upto [] w (w3.setCell ⟨w.heap.size, 1, none⟩ (.slice b3 (ks.length + 1) n3)) := by
    have h1 := (hu.trans_ext hu1).alloc (.cells #[] 9)
    have h2 := h1.trans hg2 (fun g hg => by simp [Value.ownBlock] at hg; right; omega)
    have h3 := (h2.alloc (.cells #[.string k] 9)).trans hg3 (fun g hg => by
      rcases hw2 g (Option.mem_toList.1 hg) with h | h
      · simp [Value.ownBlock] at h; right; omega
      · simp at h; right; omega)
    exact h3.setCell (Or.inr (Nat.le_refl _)) _
  have hfr : ∀ g, (Value.slice b3 (ks.length + 1) n3).ownBlock = some g → w.heap.size ≤ g := by
    intro g hg
    rcases hw3 g (by simpa using hg) with h | h
    · rcases hw2 g h with h | h
      · simp [Value.ownBlock] at h; omega
      · simp at h; omega
    · simp at h; omega
  clear hv hu HF hu1 b0 b1 f0 f1 f2 f3 q0 q1 q2 q3 hv1 ho0 ho2 hg2 hw2 c0 c1 ho3 hg3 hw3 d0 d1 r0 r1 r2 r3 s1 s2 s3 hi0 hz0 hz1 hz2 HL hz hz' hz2' hz2''
  generalize w3.setCell ⟨w.heap.size, 1, none⟩ (.slice b3 (ks.length + 1) n3) = w4 at *
  have q0 := cell_of x0 0
  have q1 := cell_of x0 1
  have q2 := cell_of x1 0
  have q3 := cell_of x1 1
  have f0 := free_of x1 0
  have f1 := free_of x1 1
  simp at q0 q1 q2 q3
  go_region
  all_goals
    go_wp2
    refine bodyPost_ret (v := .tuple #[.agg #[.int .i64 room, .slice b3 (ks.length + 1) n3], .int .i64 ks.length, .int .i64 0]) (by simp [results, Tryd.results16, go_sem, q0, q1, q2, q3]) rfl ⟨b3, n3, rfl, ?_, ?_, hfr⟩
  · have := SlC.of_row (ownsRow_of_block hro (fun g hg => set_other (p := w.heap.size + 1) (set_other (p := w.heap.size + 1) rfl (by rintro rfl; exact row_ne hro (Option.mem_toList.2 hg) x1 (by decide)) 0 (.int .i64 room)) (by rintro rfl; exact row_ne hro (Option.mem_toList.2 hg) x1 (by decide)) 1 (.slice b3 (ks.length + 1) n3)))
    exact this
  · exact ((hut.setCell (Or.inr (by simp)) _).setCell (Or.inr (by simp)) _).drew

theorem SlC.own_lt {w : World} {v : Value} {xs : List Value} (h : SlC w v xs) (hn : xs ≠ []) {g : Nat} (hg : v.ownBlock = some g) : g < w.heap.size := by
  rcases h with ⟨h0, _⟩ | ⟨b, o, c, rfl, hc⟩
  · exact absurd h0 hn
  · simp [Value.ownBlock] at hg
    subst hg
    cases xs with
    | nil => exact absurd rfl hn
    | cons x xs => exact World.block_lt_of_cell? w _ (hc 0 x (by simp))

/-- what Id does, with the reference's errors -/
theorem rid_calls (hv : SlC w (.slice va ks.length vc) (ks.map .string)) (hl : ks.length ≤ 1048575) :
    Calls Tryd.prog 16 #[.agg #[.int .i64 room, .slice va ks.length vc], .string k] w fun e w' =>
      ∃ va' vc', e = .returned (.tuple #[.agg #[.int .i64 room, .slice va' (internF room ks k).1.length vc'], .int .i64 (internF room ks k).2.1, .int .i64 (internF room ks k).2.2]) ∧
        SlC w' (.slice va' (internF room ks k).1.length vc') ((internF room ks k).1.map .string) ∧ Upto [] w w' ∧ ∀ g, (Value.slice va' (internF room ks k).1.length vc').ownBlock = some g → (Value.slice va ks.length vc).ownBlock = some g ∨ w.heap.size ≤ g ∧ g < w'.heap.size := by
  unfold internF
  cases hi : idx ks k with
  | some i => exact (rid_old ks k room va vc w hv (by omega) i hi).mono fun e w' ⟨he, hu⟩ => ⟨va, vc, he, hv.ext hu, hu, fun _ h => Or.inl h⟩
  | none =>
    by_cases hr : room ≤ ks.length
    · simp only [hr, if_true]
      exact (rid_full ks k room va vc w hv (by omega) hi hr).mono fun e w' ⟨he, hu⟩ => ⟨va, vc, he, hv.ext hu, hu, fun _ h => Or.inl h⟩
    · simp only [hr, if_false]
      exact (rid_new ks k room va vc w hv (by omega) hi (by omega)).mono fun e w' ⟨va', vc', he, h1, hu, hf⟩ => ⟨va', vc', by simpa using he, by simpa using h1, hu, fun g hg => Or.inr ⟨hf g (by simpa using hg), SlC.own_lt h1 (by simp) (by simpa using hg)⟩⟩
end
end Go.Proofs.YtffnkjlobflhcaaDoor
