/- InternIds: the walk. -/
import Derived.Test.YtffnkjlobflhcaaDoorKnown
import Derived.Test.YtffnkjlobflhcaaDoorSeen
import Derived.Test.YtffnkjlobflhcaaDoorFew
import Derived.Deep.RegionHeld3
import Derived.Deep.RegionLaw
import Derived.Deep.LoopGhost
namespace Go.Proofs.YtffnkjlobflhcaaDoor
open Go.RowKit Go.PL Go.Maps

/-- what stands in memory while the pool holds the keys us, the reference the keys rs; mb: the reference's block -/
structure IdAt (w : World) (room p mb : Nat) (us rs : List ByteArray) (S : List Nat) (va : Option Addr) (vc : Nat) (wr : World) : Prop where
  pool : PoolX wr p room us S
  blk : wr.heap[mb]? = some (.cells #[.int .i64 room, .slice va rs.length vc] 38 (0, 0))
  sl : SlC wr (.slice va rs.length vc) (rs.map .string)
  mS : mb ∉ S
  mN : w.heap.size ≤ mb
  sS : ∀ g, (Value.slice va rs.length vc).ownBlock = some g → g ∉ S ∧ g ≠ mb ∧ g < wr.heap.size
  new : Within w [] S
  up : Upto [] w wr

section
variable {w wr w' : World} {room p mb : Nat} {us rs rs' : List ByteArray} {S : List Nat} {va va' : Option Addr} {vc vc' : Nat}
theorem IdAt.ext (h : IdAt w room p mb us rs S va vc wr) (hu : Upto [] wr w') : IdAt w room p mb us rs S va vc w' :=
  ⟨h.pool.upto hu (by simp), hu.at h.blk (by simp), h.sl.ext hu, h.mS, h.mN, fun g hg => ⟨(h.sS g hg).1, (h.sS g hg).2.1, Nat.lt_of_lt_of_le (h.sS g hg).2.2 hu.size⟩, h.new, h.up.trans_ext hu⟩

/-- the reference's block is written -/
theorem IdAt.put (h : IdAt w room p mb us rs S va vc wr) (hu : Upto [] wr w') (hv : SlC w' (.slice va' rs'.length vc') (rs'.map .string))
    (hf : ∀ g, (Value.slice va' rs'.length vc').ownBlock = some g → (Value.slice va rs.length vc).ownBlock = some g ∨ wr.heap.size ≤ g ∧ g < w'.heap.size) :
    IdAt w room p mb us rs' S va' vc' ((w'.setCell ⟨mb, 0, none⟩ (.int .i64 room)).setCell ⟨mb, 1, none⟩ (.slice va' rs'.length vc')) := by
  have k := h.ext hu
  have hm := lt_of_heap h.blk
  have hS := h.pool.lt
  have hg : ∀ g, (Value.slice va' rs'.length vc').ownBlock = some g → g ∉ S ∧ g ≠ mb ∧ g < w'.heap.size := by
    intro g hg
    rcases hf g hg with h1 | h1
    · exact k.sS g h1
    · refine ⟨fun hm => ?_, by omega, h1.2⟩
      have := hS g hm
      omega
  have hset : Upto [mb] w' ((w'.setCell ⟨mb, 0, none⟩ (.int .i64 room)).setCell ⟨mb, 1, none⟩ (.slice va' rs'.length vc')) :=
    ((Upto.refl _ _).setCell (Or.inl (by simp)) _).setCell (Or.inl (by simp)) _
  refine ⟨k.pool.upto hset (fun x hx => by simp; rintro rfl; exact h.mS hx), ?_, hv.upto hset (fun g o n c hs _ => ?_), h.mS, h.mN, fun g h => by simpa using hg g h, h.new, ?_⟩
  · have x0 := set_same k.blk 0 (.int .i64 room)
    have x1 := set_same x0 1 (.slice va' rs'.length vc')
    simpa using x1
  · simp only [Value.slice.injEq] at hs
    obtain ⟨rfl, -, -⟩ := hs
    have := (hg g (by simp [Value.ownBlock])).2.1
    simpa using this
  · exact (k.up.setCell (Or.inr h.mN) _).setCell (Or.inr h.mN) _

/-- the pool is written -/
theorem IdAt.interned {S' : List Nat} {us' : List ByteArray} (h : IdAt w room p mb us rs S va vc wr) (hu : Upto S wr w') (hw : Within wr S S') (hp : PoolX w' p room us' S') : IdAt w room p mb us' rs S' va vc w' := by
  have hS := h.pool.lt
  have hm := lt_of_heap h.blk
  have hz := h.up.size
  refine ⟨hp, hu.at h.blk h.mS, h.sl.upto hu (fun g o n c hs _ => ?_), fun hx => ?_, h.mN, fun g hg => ⟨fun hx => ?_, (h.sS g hg).2.1, Nat.lt_of_lt_of_le (h.sS g hg).2.2 hu.size⟩, Within.next h.new hw hz, h.up.trans hu h.new⟩
  · simp only [Value.slice.injEq] at hs
    obtain ⟨rfl, -, -⟩ := hs
    exact (h.sS g (by simp [Value.ownBlock])).1
  · rcases hw _ hx with h1 | h1
    · exact h.mS h1
    · omega
  · rcases hw _ hx with h1 | h1
    · exact (h.sS g hg).1 h1
    · have := (h.sS g hg).2.2
      omega
end

/-- the reference's next value in a block of its own -/
structure RefNew (wr : World) (own : Option Nat) (room nb : Nat) (rs' : List ByteArray) (va' : Option Addr) (vc' : Nat) (w4 : World) : Prop where
  blk : w4.heap[nb]? = some (.cells #[.int .i64 room, .slice va' rs'.length vc'] 38 (0, 0))
  up : Upto [] wr w4
  sl : SlC w4 (.slice va' rs'.length vc') (rs'.map .string)
  fr : ∀ g, (Value.slice va' rs'.length vc').ownBlock = some g → own = some g ∨ wr.heap.size ≤ g ∧ g < w4.heap.size
theorem refNewA {wr w3 : World} {own : Option Nat} {room : Nat} {rs' : List ByteArray} {va' : Option Addr} {vc' m : Nat} (hw3 : Upto [] wr w3) (hv3 : SlC w3 (.slice va' rs'.length vc') (rs'.map .string))
    (hf3 : ∀ g, (Value.slice va' rs'.length vc').ownBlock = some g → own = some g ∨ m ≤ g ∧ g < w3.heap.size) (hm : wr.heap.size ≤ m) :
    RefNew wr own room w3.heap.size rs' va' vc' (w3.alloc (.cells #[.int .i64 room, .slice va' rs'.length vc'] 38)) :=
  ⟨new_at _ _, hw3.alloc _, hv3.ext ((Upto.refl _ _).alloc _), fun g hg => (hf3 g hg).imp id (fun h => ⟨by omega, by simp; omega⟩)⟩
theorem refNewB {wr w3 : World} {own : Option Nat} {room : Nat} {rs' : List ByteArray} {va' : Option Addr} {vc' m : Nat} {x y : Value} (n0 : w3.heap[wr.heap.size]? = some (.cells #[x, y] 38 (0, 0))) (hw3 : Upto [] wr w3) (hv3 : SlC w3 (.slice va' rs'.length vc') (rs'.map .string))
    (hf3 : ∀ g, (Value.slice va' rs'.length vc').ownBlock = some g → own = some g ∨ m ≤ g ∧ g < w3.heap.size) (hm : wr.heap.size < m) (ho : ∀ g, own = some g → g < wr.heap.size) :
    RefNew wr own room wr.heap.size rs' va' vc' ((w3.setCell ⟨wr.heap.size, 0, none⟩ (.int .i64 room)).setCell ⟨wr.heap.size, 1, none⟩ (.slice va' rs'.length vc')) := by
  have x1 := set_same (set_same n0 0 (.int .i64 room)) 1 (.slice va' rs'.length vc')
  simp at x1
  refine ⟨x1, (hw3.setCell (Or.inr (Nat.le_refl _)) _).setCell (Or.inr (Nat.le_refl _)) _, hv3.upto (((Upto.refl [wr.heap.size] w3).setCell (Or.inl (by simp)) _).setCell (Or.inl (by simp)) _) (fun g o n c hs _ => ?_), fun g hg => (hf3 g hg).imp id (fun h => ⟨by omega, by simpa using h.2⟩)⟩
  simp only [Value.slice.injEq] at hs
  obtain ⟨rfl, -, -⟩ := hs
  simp
  rcases hf3 g (by simp [Value.ownBlock]) with h1 | h1
  · have := ho g h1; omega
  · omega

def IdR (w : World) (room p mb n : Nat) (iv' : Value) (wr : World) : Prop :=
  ∃ (i : Nat) (us : List ByteArray) (S : List Nat) (va : Option Addr) (vc : Nat), i ≤ n ∧ i ≤ 40 ∧ us.length ≤ i ∧ iv' = .int .i64 i ∧ IdAt w room p mb us us S va vc wr

theorem idx_bound {us : List ByteArray} {k : ByteArray} {room : Nat} : (internF room us k).1.length ≤ us.length + 1 := by
  unfold internF
  split
  · simp
  · split <;> simp

set_option maxRecDepth 100000 in
set_option maxHeartbeats 3200000 in
theorem ids_walk (most : Int) (ka : Option Addr) (kc : Nat) (keys : List ByteArray) (other : ByteArray) (w : World) (hk : SlC w (.slice ka keys.length kc) (keys.map .string)) (hs : ∀ k ∈ keys, k.size ≤ 9223372036854775807) (ho : other.size ≤ 9223372036854775807) (hl : keys.length ≤ 9223372036854775807) :
    Calls Tryd.prog 4 #[.int .i64 most, .slice ka keys.length kc, .string other] w fun e w' => e = .returned (.bool true) ∧ Upto [] w w' := by
  have H0 := Lib.hid (room_is most w)
  have hroom := roomF_lt most
  generalize roomF most = room at *
  have H1 := Lib.hid (new_calls room (by omega))
  have H2 := Lib.hid known_calls
  go_enter Tryd.func4, Tryd.ntmps4
  go_wp2_with (go_at_call 14; refine H0.out.mono ?_; rintro e w0 ⟨rfl, rfl⟩)
  have hu0 : Upto [] w (w.alloc (.cells #[.int .i64 room, .slice none 0 0] 38)) := (Upto.refl _ _).alloc _
  have b0 := new_at w (.cells #[.int .i64 room, .slice none 0 0] 38)
  have q0 := cell_of b0 0
  simp at q0
  refine (H1.out _).mono ?_
  rintro e w1 ⟨p, S0, rfl, hp0, hs0, hu1⟩
  have b1 := hu1.at b0 (by simp)
  have hu01 := hu0.trans_ext hu1
  go_wp2_with fail
  refine (H2.out _).mono ?_
  rintro e w2 ⟨rfl, hu2⟩
  have hp2 := hp0.upto hu2 (by simp)
  have b2 := hu2.at b1 (by simp)
  have hst : IdAt w room p w.heap.size [] [] S0 none 0 w2 := by
    refine ⟨hp2, b2, Or.inl ⟨rfl, none, 0, rfl⟩, ?_, Nat.le_refl _, by simp [Value.ownBlock], ?_, hu01.trans_ext hu2⟩
    · intro hm
      rcases hs0 _ hm with h | h
      · cases h
      · simp at h; omega
    · intro k hk
      rcases hs0 _ hk with h | h
      · cases h
      · right; simp at h; omega
  clear H1 H2 hp0 hs0 hu0 b0 q0 hu1 b1 hu01 hu2 hp2 b2 H0
  have hmb : ∃ mb, mb = w.heap.size := ⟨_, rfl⟩
  obtain ⟨mb, hmb⟩ := hmb
  rw [← hmb] at hst ⊢
  clear hmb
  go_wp2_with fail
  go_loopw [10] (fun iv' wr => IdR w room p mb keys.length iv' wr) (fun i _ => 40 - (intOf i).toNat)
  case atStart => exact ⟨0, [], S0, none, 0, by omega, by omega, by simp, rfl, hst⟩
  case round =>
    obtain ⟨i, us, S, va, vc, hi, hi40, hul, rfl, h⟩ := hrel
    by_cases hlt : i < keys.length ∧ i < 40
    · obtain ⟨hl1, hl2⟩ := hlt
      rcases hk with ⟨h0, _⟩ | ⟨g, o, c, hka, hc⟩
      · simp at h0; rw [h0] at hl1; simp at hl1
      simp only [Value.slice.injEq] at hka
      obtain ⟨rfl, -, rfl⟩ := hka
      have hk := hc i (.string keys[i]) (by simp [hl1])
      have hks := hs _ (List.getElem_mem hl1)
      have hgw : g < w.heap.size := World.block_lt_of_cell? w _ hk
      have hk1 := (h.up.cell (p := ⟨g, o + i, none⟩) hgw (by simp)).trans hk
      generalize keys[i] = k at *
      have HF := Lib.hid (fun w' => few_is k w' hks)
      have hfk := fewF_size k
      obtain ⟨us', n', f', hI⟩ : ∃ us' n' f', internF room us (fewF k) = (us', n', f') := ⟨_, _, _, rfl⟩
      have hul' : us'.length ≤ us.length + 1 := by have := idx_bound (us := us) (k := fewF k) (room := room); rw [hI] at this; exact this
      have HR : Hid (∀ w1, Upto [] wr w1 → Calls Tryd.prog 16 #[.agg #[.int .i64 room, .slice va us.length vc], .string (fewF k)] w1 fun e w' =>
        ∃ va' vc', e = .returned (.tuple #[.agg #[.int .i64 room, .slice va' us'.length vc'], .int .i64 n', .int .i64 f']) ∧
          SlC w' (.slice va' us'.length vc') (us'.map .string) ∧ Upto [] w1 w' ∧ Upto [] wr w' ∧ ∀ g, (Value.slice va' us'.length vc').ownBlock = some g → (Value.slice va us.length vc).ownBlock = some g ∨ w1.heap.size ≤ g ∧ g < w'.heap.size) :=
        fun w1 hu => (rid_calls us (fewF k) room va vc w1 (h.sl.ext hu) (by omega)).mono fun e w' ⟨a, b, c, d, e, f⟩ => by
          rw [hI] at c d f
          exact ⟨a, b, c, d, e, hu.trans_ext e, f⟩
      have HI : Hid (∀ w1 S1, PoolX w1 p room us S1 → Calls Tryd.prog 18 #[.pointer (some ⟨p, 0, none⟩), .string (fewF k)] w1 fun e w' => e = .returned (.tuple #[.int .i64 n', .int .i64 f']) ∧
          ∃ S', PoolX w' p room us' S' ∧ Within w1 S1 S' ∧ Upto S1 w1 w') := fun w1 S1 hp => by
        have := intern_calls hp (fewF k) (by unfold maxLen; omega)
        rw [hI] at this
        exact this
      clear hI
      have q0 := cell_of h.blk 0
      have q1 := cell_of h.blk 1
      simp at q0 q1
      have hmw := lt_of_heap h.blk
      have hgr : g < wr.heap.size := by have := h.up.size; omega
      have hwr := Upto.refl [] wr
      have n1 : wr.heap.size ≠ mb := by omega
      have n2 : wr.heap.size ≠ g := by omega
      clear hk
      go_wp2_with fail
      go_region_held3 (fun w' => w'.cell? ⟨mb, 0, none⟩ = some (.int .i64 room) ∧ w'.cell? ⟨mb, 1, none⟩ = some (.slice va us.length vc) ∧ w'.cell? ⟨g, o + i, none⟩ = some (.string k))
        (first | go_keep | exact ⟨m0, m1, m2⟩ | (refine ⟨?_, ?_, ?_⟩ <;> (rw [World.cell?_alloc_some _ _ _ (by simp only [m0, m1, m2]; rfl)]; assumption)) | (simp only [World.cell?_setCell_far, n1, n2, ne_eq, not_false_eq_true]; exact ⟨m0, m1, m2⟩))
        (first
          | (go_at_call 17; refine (HF.out _).mono ?_; rintro e w' ⟨rfl, rfl⟩)
          | (go_at_call 16; refine (HR.out _ (by first | exact hwr.drew | exact (hwr.drew).alloc _)).mono ?_; rintro e w3 ⟨va', vc', rfl, hv3, hu3, hw3, hf3⟩; have m0 := (hw3.cell (p := ⟨mb, 0, none⟩) hmw (by simp)).trans q0; have m1 := (hw3.cell (p := ⟨mb, 1, none⟩) hmw (by simp)).trans q1; have m2 := (hw3.cell (p := ⟨g, o + i, none⟩) hgr (by simp)).trans hk1; try (have n0 : w3.heap[wr.heap.size]? = some _ := hu3.at (new_at _ _) (by simp); have f0 := free_of n0 0; have f1 := free_of n0 1; have e0 := cell_of n0 0; have e1 := cell_of n0 1; simp at e0 e1)))
      all_goals
        first
          | (have R := refNewB (room := room) n0 hw3 hv3 hf3 (by simp) (fun g hg => (h.sS g hg).2.2)
             generalize (w3.setCell ⟨wr.heap.size, 0, none⟩ (.int .i64 room)).setCell ⟨wr.heap.size, 1, none⟩ (.slice va' us'.length vc') = w4 at *
             clear n0 f0 f1 e0 e1
             generalize hnb : wr.heap.size = nb at R)
          | (have R := refNewA (room := room) hw3 hv3 hf3 (Nat.le_refl _)
             generalize w3.alloc (.cells #[.int .i64 room, .slice va' us'.length vc'] 38) = w4 at *
             generalize hnb : w3.heap.size = nb at *)
      all_goals
        have m := h.put R.up R.sl R.fr
        have hb4 := R.up.at h.blk (by simp)
        have r0 := cell_of R.blk 0
        have r1 := cell_of R.blk 1
        have s0 := cell_of hb4 0
        have s1 := cell_of hb4 1
        have t0 := free_of hb4 0
        have t1 := free_of hb4 1
        simp at r0 r1 s0 s1
        have hk5 := (m.up.cell (p := ⟨g, o + i, none⟩) hgw (by simp)).trans ((h.up.cell (p := ⟨g, o + i, none⟩) hgw (by simp)).symm.trans hk1)
        clear h R hb4 hw3 hv3 hf3 m0 m1 m2 hu3 HR hwr q0 q1 n1 n2 hgr hmw
        go_wp2_with (first
          | (go_at_call 17; refine (HF.out _).mono ?_; rintro e w' ⟨rfl, rfl⟩)
          | (go_at_call 18; refine (HI.out _ _ m.pool).mono ?_; rintro e w6 ⟨rfl, S', hp6, hs6, hu6⟩; have m6 := m.interned hu6 hs6 hp6; have u0 := cell_of m6.blk 0; have u1 := cell_of m6.blk 1; simp at u0 u1)
          | (go_at_call 19; refine (seen_calls p room room us' S' va' vc' _ m6.pool m6.sl).mono ?_; rintro e w7 ⟨rfl, hu7⟩; have m7 := m6.ext hu7))
        go_roundw
        case rel => exact ⟨i + 1, us', S', va', vc', by omega, by omega, by omega, by go_num, m7⟩
        case measure => simp [intOf]; omega
    · have hfk := fewF_size other
      have HF := Lib.hid (fun w' => few_is other w' ho)
      have hfd := find_calls h.pool (fewF other) (by unfold maxLen; omega)
      have hrf : ∀ w1, Upto [] wr w1 → Calls Tryd.prog 21 #[.agg #[.int .i64 room, .slice va us.length vc], .string (fewF other)] w1 fun e w' => e = .returned (.int .i64 (refFind us (fewF other))) ∧ Upto [] wr w' :=
        fun w1 hu => (rfind_calls us (fewF other) room _ w1 (h.sl.ext hu) (by omega)).mono fun e w' ⟨a, b⟩ => ⟨a, hu.trans_ext b⟩
      have q0 := cell_of h.blk 0
      have q1 := cell_of h.blk 1
      simp at q0 q1
      have hmw := lt_of_heap h.blk
      have hwr := Upto.refl [] wr
      have hup := h.up
      clear hk hs
      cases hix : idx us (fewF other) with
      | some j =>
        simp only [findF, hix] at hfd
        simp only [refFind, hix] at hrf
        have HD := Lib.hid hfd
        have HR := Lib.hid hrf
        clear hfd hrf h hix
        go_wp2_with (first
          | (go_at_call 17; refine (HF.out _).mono ?_; rintro e w' ⟨rfl, rfl⟩)
          | (go_at_call 20; refine HD.out.mono ?_; rintro e w' ⟨rfl, rfl⟩))
        all_goals
          go_region_held3 (fun w' => w'.cell? ⟨mb, 0, none⟩ = some (.int .i64 room) ∧ w'.cell? ⟨mb, 1, none⟩ = some (.slice va us.length vc))
            (first | go_keep | exact ⟨m0, m1⟩)
            (first
              | (go_at_call 17; refine (HF.out _).mono ?_; rintro e w' ⟨rfl, rfl⟩)
              | (go_at_call 21; refine (HR.out _ (by exact hwr.drew)).mono ?_; rintro e w3 ⟨rfl, hw3⟩; have m0 := (hw3.cell (p := ⟨mb, 0, none⟩) hmw (by simp)).trans q0; have m1 := (hw3.cell (p := ⟨mb, 1, none⟩) hmw (by simp)).trans q1))
          go_wp2
          all_goals
            go_ret
            exact ⟨rfl, hup.trans_ext hw3⟩
      | none =>
        simp only [findF, hix] at hfd
        simp only [refFind, hix] at hrf
        have HD := Lib.hid hfd
        have HR := Lib.hid hrf
        clear hfd hrf h hix
        go_wp2_with (first
          | (go_at_call 17; refine (HF.out _).mono ?_; rintro e w' ⟨rfl, rfl⟩)
          | (go_at_call 20; refine HD.out.mono ?_; rintro e w' ⟨rfl, rfl⟩))
        all_goals
          go_region_held3 (fun w' => w'.cell? ⟨mb, 0, none⟩ = some (.int .i64 room) ∧ w'.cell? ⟨mb, 1, none⟩ = some (.slice va us.length vc))
            (first | go_keep | exact ⟨m0, m1⟩)
            (first
              | (go_at_call 17; refine (HF.out _).mono ?_; rintro e w' ⟨rfl, rfl⟩)
              | (go_at_call 21; refine (HR.out _ (by exact hwr.drew)).mono ?_; rintro e w3 ⟨rfl, hw3⟩; have m0 := (hw3.cell (p := ⟨mb, 0, none⟩) hmw (by simp)).trans q0; have m1 := (hw3.cell (p := ⟨mb, 1, none⟩) hmw (by simp)).trans q1))
          go_wp2
          all_goals
            go_ret
            exact ⟨rfl, hup.trans_ext hw3⟩
end Go.Proofs.YtffnkjlobflhcaaDoor
