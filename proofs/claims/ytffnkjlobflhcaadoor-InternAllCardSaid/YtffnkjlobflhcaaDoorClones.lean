/- InternClones: the walk. -/
import Derived.Test.YtffnkjlobflhcaaDoorSt
import Derived.Test.YtffnkjlobflhcaaDoorCloneP
import Derived.Test.YtffnkjlobflhcaaDoorFew
import Derived.Deep.RegionHeld3
import Derived.Deep.RegionLaw
import Derived.Deep.LoopGhost
import Derived.Deep.DeepCutAuto
import Derived.Deep.CutBlock
import Derived.LaidEqlPtr
namespace Go.Proofs.YtffnkjlobflhcaaDoor
open Go.RowKit Go.PL Go.Maps

theorem internF_len {us : List ByteArray} {k : ByteArray} {room : Nat} : (internF room us k).1.length ≤ us.length + 1 := by
  unfold internF
  split
  · simp
  · split <;> simp

theorem RefX.fresh {w : World} {m room : Nat} (hb : w.heap[m]? = some (.cells #[.int .i64 room, .slice none 0 0] 38 (0, 0))) : RefX w m room [] [m] :=
  ⟨none, 0, by simp [Value.ownBlock], by simp [Value.ownBlock], hb, Or.inl ⟨rfl, none, 0, rfl⟩, fun g hg => by simp at hg; subst hg; exact lt_of_heap hb⟩

set_option maxRecDepth 100000 in
set_option maxHeartbeats 800000 in
theorem equal_nil (p : Nat) (w : World) : Calls Tryd.prog 31 #[.pointer (some ⟨p, 0, none⟩), .pointer none] w fun e w' => e = .returned (.bool false) ∧ w = w' := by
  go_enter Tryd.func31, Tryd.ntmps31
  go_wp2
  all_goals
    go_ret
    exact ⟨rfl, rfl⟩

theorem info80 : (Tryd.prog.info? 80).map (fun i => decide (i.size = 0)) = some false := by kernel_rfl
theorem ptr_ne {w : World} {c p r1 r2 : Nat} {xs ys : List ByteArray} {S T : List Nat} (hc : PoolX w c r1 xs S) (hp : PoolX w p r2 ys T) (hne : c ≠ p) :
    (binOp .eql 39 (.pointer (some ⟨c, 0, none⟩)) (.pointer (some ⟨p, 0, none⟩))).run Tryd.prog w = .ok (.bool false) w := by
  obtain ⟨j, hj, hj2⟩ := Option.map_eq_some_iff.1 info80
  obtain ⟨_, _, hc⟩ := hc
  obtain ⟨_, _, hp⟩ := hp
  exact run_eql_ptr_other w Tryd.underlying39 hj (by simpa using hj2) (fun e => hne (congrArg Addr.block e)) hc.blk hp.blk

def Cl1 (w : World) (p q m nb r n : Nat) (iv' : Value) (wr : World) : Prop :=
  ∃ (i : Nat) (us : List ByteArray) (S1 S2 F1 F2 : List Nat), i ≤ n ∧ i ≤ 20 ∧ us.length ≤ i ∧ iv' = .int .i64 i ∧ St w wr [⟨p, 20, us, S1⟩, ⟨q, r, [], S2⟩] [⟨m, 20, us, F1⟩, ⟨nb, r, [], F2⟩]
def Cl2 (w : World) (p q c m nb x r n : Nat) (us : List ByteArray) (iv' : Value) (wr : World) : Prop :=
  ∃ (i : Nat) (xs ns : List ByteArray) (S1 S2 S3 F1 F2 F3 : List Nat), i ≤ n ∧ i ≤ 20 ∧ us.length ≤ 20 ∧ xs.length ≤ i + 20 ∧ ns.length ≤ i ∧ iv' = .int .i64 i ∧
    St w wr [⟨c, 20, xs, S3⟩, ⟨q, r, ns, S2⟩, ⟨p, 20, us, S1⟩] [⟨x, 20, xs, F3⟩, ⟨nb, r, ns, F2⟩, ⟨m, 20, us, F1⟩]

set_option maxRecDepth 100000 in
set_option maxHeartbeats 6400000 in
theorem clones_walk (ka ta : Option Addr) (kc tc : Nat) (keys thens : List ByteArray) (more : Int) (w : World) (hk : SlC w (.slice ka keys.length kc) (keys.map .string)) (hs : ∀ k ∈ keys, k.size ≤ 9223372036854775807) (hl : keys.length ≤ 9223372036854775807)
    (hk2 : SlC w (.slice ta thens.length tc) (thens.map .string)) (hs2 : ∀ k ∈ thens, k.size ≤ 9223372036854775807) (hl2 : thens.length ≤ 9223372036854775807) :
    Calls Tryd.prog 8 #[.slice ka keys.length kc, .slice ta thens.length tc, .int .i64 more] w fun e w' => e = .returned (.bool true) ∧ Upto [] w w' := by
  have H1 := Lib.hid (new_calls 20 (by omega) w)
  have h1 : 0 ≤ IntKind.u64.wrap more := by simp [IntKind.wrap, IntKind.signed, IntKind.bits]; omega
  obtain ⟨r2, hr2, hr3⟩ : ∃ r2 : Nat, IntKind.u64.wrap more % 2 = r2 ∧ r2 < 2 := ⟨(IntKind.u64.wrap more % 2).toNat, by omega, by omega⟩
  obtain ⟨r, hrr⟩ : ∃ r : Nat, (20 : Int) + r2 = r := ⟨20 + r2, by omega⟩
  have hrl : r ≤ 21 := by omega
  have H2 := Lib.hid (new_calls r (by omega))
  have H3 := Lib.hid known_calls
  have HHR := Lib.hid hrr
  go_enter Tryd.func8, Tryd.ntmps8
  go_wp2_with fail
  refine H1.out.mono ?_
  rintro e w1 ⟨p, S0, rfl, hp0, hs0, hu1⟩
  go_wp2_with fail
  refine (H2.out _).mono ?_
  rintro e w2 ⟨q, S2, rfl, hq0, hs2', hu2⟩
  go_wp2_with fail
  refine (H3.out _).mono ?_
  rintro e w3 ⟨rfl, hu3⟩
  have hst0 := (((St.nil w).addPool hp0 hs0 hu1).addPool hq0 hs2' hu2).ext hu3
  clear hp0 hs0 hu1 hq0 hs2' hu2 hu3 H1 H2 H3
  go_upto_block 0 with fail
  have hst1 := (hst0.addRef (RefX.fresh (room := 20) (new_at w3 (.cells #[.int .i64 20, .slice none 0 0] 38))) ((Upto.refl [] w3).alloc _) (Nat.le_refl _) (by simp)).addRef
    (RefX.fresh (room := r) (new_at1 w3 (.cells #[.int .i64 20, .slice none 0 0] 38) (.cells #[.int .i64 r, .slice none 0 0] 38))) ((Upto.refl [] _).alloc _) (by simp) (by simp)
  have hst2 := hst1.perm (List.Perm.swap _ _ _) (List.Perm.swap _ _ _)
  clear hst0 hst1
  generalize (w3.alloc (.cells #[.int .i64 20, .slice none 0 0] 38)).alloc (.cells #[.int .i64 r, .slice none 0 0] 38) = w4 at *
  obtain ⟨m, hm⟩ : ∃ m, m = w3.heap.size := ⟨_, rfl⟩
  obtain ⟨nb, hnb⟩ : ∃ nb, nb = w3.heap.size + 1 := ⟨_, rfl⟩
  rw [← hnb, ← hm] at hst2 ⊢
  clear hm hnb
  simp only [hr2]
  clear hr2 h1 hr3
  go_cut [] (fun wx => ∃ (us : List ByteArray) (S1 S2 F1 F2 : List Nat), us.length ≤ 20 ∧ St w wx [⟨p, 20, us, S1⟩, ⟨q, r, [], S2⟩] [⟨m, 20, us, F1⟩, ⟨nb, r, [], F2⟩])
  case first =>
    go_wp2_with fail
    go_loopw [13] (fun iv' wr => Cl1 w p q m nb r keys.length iv' wr) (fun i _ => 20 - (intOf i).toNat)
    case atStart => exact ⟨0, [], S0, S2, _, _, by omega, by omega, by simp, rfl, hst2⟩
    case round =>
      obtain ⟨i, us, S1, S2, F1, F2, hi, hi20, hul, rfl, h⟩ := hrel
      by_cases hlt : i < keys.length ∧ i < 20
      · obtain ⟨hl1, hl2⟩ := hlt
        rcases hk with ⟨h0, _⟩ | ⟨g, o, c, hka, hc⟩
        · simp at h0; rw [h0] at hl1; simp at hl1
        simp only [Value.slice.injEq] at hka
        obtain ⟨rfl, -, rfl⟩ := hka
        have hk := hc i (.string keys[i]) (by simp [hl1])
        have hks := hs _ (List.getElem_mem hl1)
        have hgw : g < w.heap.size := World.block_lt_of_cell? w _ hk
        have hk1 := (h.up.cell (p := ⟨g, o + i, none⟩) hgw (by simp)).trans hk
        generalize keys[i] = k at *
        have HF := Lib.hid (fun w' => few_is k w' hks)
        have hfk := fewF_size k
        obtain ⟨us', n', f', hI⟩ : ∃ us' n' f', internF 20 us (fewF k) = (us', n', f') := ⟨_, _, _, rfl⟩
        have hul' : us'.length ≤ us.length + 1 := by have := internF_len (us := us) (k := fewF k) (room := 20); rw [hI] at this; exact this
        obtain ⟨va, vc, hF, hn, hb, hsl, hlg⟩ := h.ref ⟨m, 20, us, F1⟩ (by simp)
        simp only at hF hn hb hsl hlg
        have HR : Hid (∀ w1, Upto [] wr w1 → Calls Tryd.prog 16 #[.agg #[.int .i64 20, .slice va us.length vc], .string (fewF k)] w1 fun e w' =>
          ∃ va' vc', e = .returned (.tuple #[.agg #[.int .i64 20, .slice va' us'.length vc'], .int .i64 n', .int .i64 f']) ∧
            SlC w' (.slice va' us'.length vc') (us'.map .string) ∧ Upto [] wr w' ∧ ∀ g, (Value.slice va' us'.length vc').ownBlock = some g → (Value.slice va us.length vc).ownBlock = some g ∨ wr.heap.size ≤ g ∧ g < w'.heap.size) :=
          fun w1 hu => (rid_calls us (fewF k) 20 va vc w1 (hsl.ext hu) (by omega)).mono fun e w' ⟨a, b, c, d, e, f⟩ => by
            rw [hI] at c d f
            exact ⟨a, b, c, d, hu.trans_ext e, fun g hg => (f g hg).imp id (fun h => ⟨Nat.le_trans hu.size h.1, h.2⟩)⟩
        have HI : Hid (∀ w1 S1, PoolX w1 p 20 us S1 → Calls Tryd.prog 18 #[.pointer (some ⟨p, 0, none⟩), .string (fewF k)] w1 fun e w' => e = .returned (.tuple #[.int .i64 n', .int .i64 f']) ∧
            ∃ S', PoolX w' p 20 us' S' ∧ Within w1 S1 S' ∧ Upto S1 w1 w') := fun w1 S1 hp => by
          have := intern_calls hp (fewF k) (by unfold maxLen; omega)
          rw [hI] at this
          exact this
        clear hI
        have q0 := cell_of hb 0
        have q1 := cell_of hb 1
        simp at q0 q1
        have hmw := lt_of_heap hb
        have hgr : g < wr.heap.size := by have := h.up.size; omega
        have hwr := Upto.refl [] wr
        clear hk
        go_wp2_with fail
        subst hF
        go_region_law (first
          | (go_simp; go_at_call 17; refine (HF.out _).mono ?_; rintro e w' ⟨rfl, rfl⟩)
          | (go_simp; go_at_call 16; refine (HR.out _ (by exact hwr.drew)).mono ?_; rintro e w3 ⟨va', vc', rfl, hv3, hw3, hf3⟩; have hb3 := hw3.at hb (by simp); have m0 := cell_of hb3 0; have m1 := cell_of hb3 1; have f0 := free_of hb3 0; have f1 := free_of hb3 1; simp at m0 m1))
        all_goals
          obtain ⟨hR', hW', hU'⟩ := RefX.put hn hb (fun g hg => hlg g (List.mem_cons_of_mem _ hg)) hw3 hv3 hf3
          have hst := h.put hR' hW' hU'
          have hk2 := (hst.up.cell (p := ⟨g, o + i, none⟩) hgw (by simp)).trans ((h.up.cell (p := ⟨g, o + i, none⟩) hgw (by simp)).symm.trans hk1)
          change SlC w3 _ _ at hv3
          clear hR' hW' hU' h HR hwr hb3 m0 m1 f0 f1 hw3 hv3 q0 q1
          simp only [show ((20 : Nat) : Int) = 20 from rfl] at hst hk2
          generalize (w3.setCell ⟨m, 0, none⟩ (.int .i64 20)).setCell ⟨m, 1, none⟩ (.slice va' us'.length vc') = w4 at *
          go_wp2_with (first
            | (go_at_call 17; refine (HF.out _).mono ?_; rintro e w' ⟨rfl, rfl⟩)
            | (go_at_call 18; refine (HI.out _ _ (hst.pool _ List.mem_cons_self)).mono ?_; rintro e w6 ⟨rfl, S', hp6, hs6, hu6⟩; have hst6 := hst.intern hp6 hs6 hu6))
          go_roundw
          case rel => exact ⟨i + 1, us', S', S2, _, F2, by omega, by omega, by omega, by go_num, hst6⟩
          case measure => simp [intOf]; omega
      · go_wp2_with fail
        all_goals
          go_meet
          exact ⟨us, S1, S2, F1, F2, by omega, h⟩
  case rest =>
    clear hst2
    obtain ⟨us, S1, S2, F1, F2, hul20, h⟩ := hcut
    have hcl := pclone_calls p 20 us S1 _ (h.pool ⟨p, 20, us, S1⟩ List.mem_cons_self)
    have hpw := (h.pool ⟨p, 20, us, S1⟩ List.mem_cons_self).info.2.2.1
    have HC := Lib.hid hcl
    clear hcl
    go_wp2_with fail
    refine HC.out.mono ?_
    rintro e w5 ⟨c, S3, rfl, hpc, hwc, hu5, hc5⟩
    have hne : c ≠ p := by omega
    have hst5 := h.addPool hpc hwc hu5
    have HE1 := Lib.hid (fun w1 (hu : Upto [] w5 w1) => (equal_calls c p 20 20 us us S3 S1 w1 ((hst5.ext hu).pool ⟨c, 20, us, S3⟩ List.mem_cons_self) ((hst5.ext hu).pool ⟨p, 20, us, S1⟩ (List.mem_cons_of_mem _ List.mem_cons_self))))
    have HE2 := Lib.hid (fun w1 (hu : Upto [] w5 w1) => (equal_calls p c 20 20 us us S1 S3 w1 ((hst5.ext hu).pool ⟨p, 20, us, S1⟩ (List.mem_cons_of_mem _ List.mem_cons_self)) ((hst5.ext hu).pool ⟨c, 20, us, S3⟩ List.mem_cons_self)))
    have hb1 : decide (20 = 20 ∧ us = us) = true := by simp
    rw [hb1] at HE1 HE2
    clear HC hpc hwc h hb1
    have hpe := ptr_ne (hst5.pool ⟨c, 20, us, S3⟩ List.mem_cons_self) (hst5.pool ⟨p, 20, us, S1⟩ (List.mem_cons_of_mem _ List.mem_cons_self)) hne
    simp only at hpe
    go_upto_block 2 with (first
      | (go_at_call_of 31 (Value.pointer (some ⟨c, 0, none⟩)); refine (HE1.out _ (Upto.refl _ _)).mono ?_; clear HE1; rintro e w6 ⟨rfl, hu6⟩)
      | (go_at_call_of 31 (Value.pointer (some ⟨p, 0, none⟩)); refine (HE2.out _ hu6).mono ?_; clear HE2; rintro e w7 ⟨rfl, hu7⟩; have hst7 := hst5.ext (hu6.trans_ext hu7); obtain ⟨va, vc, hF, hn, hb, hsl, hlg⟩ := hst7.ref ⟨m, 20, us, F1⟩ List.mem_cons_self; simp only at hF hn hb hsl hlg; have k0 := cell_of hb 0; have k1 := cell_of hb 1; simp at k0 k1)
      | (go_at_call_of 31 (Value.pointer (some ⟨p, 0, none⟩)); refine (equal_nil p _).mono ?_; rintro e w' ⟨rfl, rfl⟩))
    have hb8 : (w7.alloc (.cells #[.int .i64 20, .slice va us.length vc] 38)).heap[w7.heap.size]? = some (.cells #[.int .i64 ((20 : Nat) : Int), .slice va us.length vc] 38 (0, 0)) := new_at _ _
    have hmw := lt_of_heap hb
    have hX : RefX (w7.alloc (.cells #[.int .i64 20, .slice va us.length vc] 38)) w7.heap.size 20 us (w7.heap.size :: (Value.slice va us.length vc).ownBlock.toList) := by
      refine ⟨va, vc, rfl, fun h => ?_, hb8, hsl.ext ((Upto.refl _ _).alloc _), fun g hg => ?_⟩
      · have := hlg w7.heap.size (by rw [hF]; exact List.mem_cons_of_mem _ h)
        omega
      · rcases List.mem_cons.1 hg with rfl | hg
        · simp
        · have := hlg g (by rw [hF]; exact List.mem_cons_of_mem _ hg)
          simp; omega
    have hst8 := hst7.addRef hX ((Upto.refl _ _).alloc _) (Nat.le_refl _) (fun k hk => by
      rcases List.mem_cons.1 hk with rfl | hk
      · exact Or.inl (Nat.le_refl _)
      · refine Or.inr ⟨fun b hb => ?_, ⟨m, 20, us, F1⟩, List.mem_cons_self, by rw [hF]; exact List.mem_cons_of_mem _ hk⟩
        have hrr := (List.pairwise_cons.1 hst7.rr).1 ⟨nb, r, [], F2⟩ List.mem_cons_self
        simp only [List.mem_cons, List.not_mem_nil, or_false] at hb
        rcases hb with rfl | rfl
        · rintro rfl; exact hn hk
        · rintro rfl; exact hrr.2 (by rw [hF]; exact List.mem_cons_of_mem _ hk))
    have hst9 := hst8.perm (((List.Perm.swap _ _ _).cons _).trans (List.Perm.refl _)) ((List.Perm.swap _ _ _).cons _)
    clear hst5 hst7 hst8 hX hb8 hsl hlg hb hn k0 k1 hpe hu5 hu6 hu7 hne hpw hc5 hmw
    generalize w7.alloc (.cells #[.int .i64 20, .slice va us.length vc] 38) = w8 at *
    generalize w7.heap.size = x at *
    clear hF HHR
    go_cut [] (fun wx => ∃ (xs ns : List ByteArray) (S1 S2 S3 F1 F2 F3 : List Nat), ns.length ≤ 20 ∧ St w wx [⟨c, 20, xs, S3⟩, ⟨q, r, ns, S2⟩, ⟨p, 20, us, S1⟩] [⟨x, 20, xs, F3⟩, ⟨nb, r, ns, F2⟩, ⟨m, 20, us, F1⟩])
    case first =>
      go_wp2_with fail
      go_loopw [16] (fun iv' wr => Cl2 w p q c m nb x r thens.length us iv' wr) (fun i _ => 20 - (intOf i).toNat)
      case atStart => exact ⟨0, us, [], S1, S2, S3, F1, F2, _, by omega, by omega, by omega, by omega, by simp, rfl, hst9⟩
      case round =>
        clear hst9
        obtain ⟨i, xs, ns, S1, S2, S3, F1, F2, F3, hi, hi20, hul, hxl, hnl, rfl, h⟩ := hrel
        by_cases hlt : i < thens.length ∧ i < 20
        · obtain ⟨hl1, hl2⟩ := hlt
          rcases hk2 with ⟨h0, _⟩ | ⟨g, o, cc, hka, hc⟩
          · simp at h0; rw [h0] at hl1; simp at hl1
          simp only [Value.slice.injEq] at hka
          obtain ⟨rfl, -, rfl⟩ := hka
          have hkw := hc i (.string thens[i]) (by simp [hl1])
          have hks := hs2 _ (List.getElem_mem hl1)
          have hgw : g < w.heap.size := World.block_lt_of_cell? w _ hkw
          generalize thens[i] = k at *
          have HF := Lib.hid (fun w' => few_is k w' hks)
          have hfk := fewF_size k
          obtain ⟨xs2, xs2n, xs2f, hIx⟩ : ∃ a b c, internF 20 xs (fewF k) = (a, b, c) := ⟨_, _, _, rfl⟩
          obtain ⟨ns2, ns2n, ns2f, hIn⟩ : ∃ a b c, internF r ns (fewF k) = (a, b, c) := ⟨_, _, _, rfl⟩
          have hxl2 : xs2.length ≤ xs.length + 1 := by have := internF_len (us := xs) (k := fewF k) (room := 20); rw [hIx] at this; exact this
          have hnl2 : ns2.length ≤ ns.length + 1 := by have := internF_len (us := ns) (k := fewF k) (room := r); rw [hIn] at this; exact this
          have HIx : Hid (∀ w1 S1, PoolX w1 c 20 xs S1 → Calls Tryd.prog 18 #[.pointer (some ⟨c, 0, none⟩), .string (fewF k)] w1 fun e w' => e = .returned (.tuple #[.int .i64 xs2n, .int .i64 xs2f]) ∧
              ∃ S', PoolX w' c 20 xs2 S' ∧ Within w1 S1 S' ∧ Upto S1 w1 w') := fun w1 S1 hp => by
            have := intern_calls hp (fewF k) (by unfold maxLen; omega)
            rw [hIx] at this
            exact this
          have HIn : Hid (∀ w1 S1, PoolX w1 q r ns S1 → Calls Tryd.prog 18 #[.pointer (some ⟨q, 0, none⟩), .string (fewF k)] w1 fun e w' => e = .returned (.tuple #[.int .i64 ns2n, .int .i64 ns2f]) ∧
              ∃ S', PoolX w' q r ns2 S' ∧ Within w1 S1 S' ∧ Upto S1 w1 w') := fun w1 S1 hp => by
            have := intern_calls hp (fewF k) (by unfold maxLen; omega)
            rw [hIn] at this
            exact this
          go_upto_region 18 with fail
          go_cut [] (fun wx => ∃ F3, St w wx [⟨c, 20, xs, S3⟩, ⟨q, r, ns, S2⟩, ⟨p, 20, us, S1⟩] [⟨x, 20, xs2, F3⟩, ⟨nb, r, ns, F2⟩, ⟨m, 20, us, F1⟩])
          case first =>
            obtain ⟨va, vc, hF, hn, hb, hsl, hlg⟩ := h.ref ⟨x, 20, xs, F3⟩ List.mem_cons_self
            simp only at hF hn hb hsl hlg
            have HR : Hid (∀ w1, Upto [] wr w1 → Calls Tryd.prog 16 #[.agg #[.int .i64 20, .slice va xs.length vc], .string (fewF k)] w1 fun e w' =>
              ∃ va' vc', e = .returned (.tuple #[.agg #[.int .i64 20, .slice va' xs2.length vc'], .int .i64 xs2n, .int .i64 xs2f]) ∧
                SlC w' (.slice va' xs2.length vc') (xs2.map .string) ∧ Upto [] wr w' ∧ ∀ g, (Value.slice va' xs2.length vc').ownBlock = some g → (Value.slice va xs.length vc).ownBlock = some g ∨ wr.heap.size ≤ g ∧ g < w'.heap.size) :=
              fun w1 hu => (rid_calls xs (fewF k) 20 va vc w1 (hsl.ext hu) (by omega)).mono fun e w' ⟨a, b, c, d, e, f⟩ => by
                rw [hIx] at c d f
                exact ⟨a, b, c, d, hu.trans_ext e, fun g hg => (f g hg).imp id (fun h => ⟨Nat.le_trans hu.size h.1, h.2⟩)⟩
            have q0 := cell_of hb 0
            have q1 := cell_of hb 1
            simp at q0 q1
            have hmw := lt_of_heap hb
            have hk1 := (h.up.cell (p := ⟨g, o + i, none⟩) hgw (by simp)).trans hkw
            have hwr := Upto.refl [] wr
            subst hF
            go_region_law (first
              | (go_simp; go_at_call 17; refine (HF.out _).mono ?_; rintro e w' ⟨rfl, rfl⟩)
              | (go_simp; go_at_call 16; refine (HR.out _ (by exact hwr.drew)).mono ?_; rintro e w3 ⟨va', vc', rfl, hv3, hw3, hf3⟩; have hb3 := hw3.at hb (by simp); have m0 := cell_of hb3 0; have m1 := cell_of hb3 1; have f0 := free_of hb3 0; have f1 := free_of hb3 1; simp at m0 m1))
            all_goals
              obtain ⟨hR', hW', hU'⟩ := RefX.put hn hb (fun g hg => hlg g (List.mem_cons_of_mem _ hg)) hw3 hv3 hf3
              have hst := h.put hR' hW' hU'
              go_wp2_with fail
              go_meet
              exact ⟨_, hst⟩
          case rest =>
            clear h
            obtain ⟨F3, h0⟩ := hcut
            have h := h0.perm (List.Perm.refl _) (List.Perm.swap _ _ _)
            clear h0
            go_upto_region 19 with fail
            go_cut [] (fun wx => ∃ F2, St w wx [⟨c, 20, xs, S3⟩, ⟨q, r, ns, S2⟩, ⟨p, 20, us, S1⟩] [⟨nb, r, ns2, F2⟩, ⟨x, 20, xs2, F3⟩, ⟨m, 20, us, F1⟩])
            case first =>
              obtain ⟨va, vc, hF, hn, hb, hsl, hlg⟩ := h.ref ⟨nb, r, ns, F2⟩ List.mem_cons_self
              simp only at hF hn hb hsl hlg
              have HR : Hid (∀ w1, Upto [] wc w1 → Calls Tryd.prog 16 #[.agg #[.int .i64 r, .slice va ns.length vc], .string (fewF k)] w1 fun e w' =>
                ∃ va' vc', e = .returned (.tuple #[.agg #[.int .i64 r, .slice va' ns2.length vc'], .int .i64 ns2n, .int .i64 ns2f]) ∧
                  SlC w' (.slice va' ns2.length vc') (ns2.map .string) ∧ Upto [] wc w' ∧ ∀ g, (Value.slice va' ns2.length vc').ownBlock = some g → (Value.slice va ns.length vc).ownBlock = some g ∨ wc.heap.size ≤ g ∧ g < w'.heap.size) :=
                fun w1 hu => (rid_calls ns (fewF k) r va vc w1 (hsl.ext hu) (by omega)).mono fun e w' ⟨a, b, c, d, e, f⟩ => by
                  rw [hIn] at c d f
                  exact ⟨a, b, c, d, hu.trans_ext e, fun g hg => (f g hg).imp id (fun h => ⟨Nat.le_trans hu.size h.1, h.2⟩)⟩
              have q0 := cell_of hb 0
              have q1 := cell_of hb 1
              simp at q0 q1
              have hmw := lt_of_heap hb
              have hk1 := (h.up.cell (p := ⟨g, o + i, none⟩) hgw (by simp)).trans hkw
              have hwr := Upto.refl [] wc
              subst hF
              go_region_law (first
                | (go_simp; go_at_call 17; refine (HF.out _).mono ?_; rintro e w' ⟨rfl, rfl⟩)
                | (go_simp; go_at_call 16; refine (HR.out _ (by exact hwr.drew)).mono ?_; rintro e w3 ⟨va', vc', rfl, hv3, hw3, hf3⟩; have hb3 := hw3.at hb (by simp); have m0 := cell_of hb3 0; have m1 := cell_of hb3 1; have f0 := free_of hb3 0; have f1 := free_of hb3 1; simp at m0 m1))
              all_goals
                obtain ⟨hR', hW', hU'⟩ := RefX.put hn hb (fun g hg => hlg g (List.mem_cons_of_mem _ hg)) hw3 hv3 hf3
                have hst := h.put hR' hW' hU'
                go_wp2_with fail
                go_meet
                exact ⟨_, hst⟩
            case rest =>
              clear h
              obtain ⟨F2, h2⟩ := hcut
              have hk1 := (h2.up.cell (p := ⟨g, o + i, none⟩) hgw (by simp)).trans hkw
              go_upto_region 22 with (first
                | (go_at_call 17; refine (HF.out _).mono ?_; rintro e w' ⟨rfl, rfl⟩)
                | (go_at_call_of 18 (Value.pointer (some ⟨c, 0, none⟩)); refine (HIx.out _ _ (h2.pool _ List.mem_cons_self)).mono ?_; rintro e w6 ⟨rfl, S3', hp6, hs6, hu6⟩; have h6 := (h2.intern hp6 hs6 hu6).perm (List.Perm.swap _ _ _) (List.Perm.refl _); have hk6 := (h6.up.cell (p := ⟨g, o + i, none⟩) hgw (by simp)).trans hkw)
                | (go_at_call_of 18 (Value.pointer (some ⟨q, 0, none⟩)); refine (HIn.out _ _ (h6.pool _ List.mem_cons_self)).mono ?_; rintro e w7 ⟨rfl, S2', hp7, hs7, hu7⟩; have h7 := h6.intern hp7 hs7 hu7))
              clear h2 h6 hp6 hs6 hu6 hp7 hs7 hu7 hk6 hk1 HIx HIn HF
              obtain ⟨va1, vc1, -, -, hb1, hsl1, -⟩ := h7.ref ⟨nb, r, ns2, F2⟩ List.mem_cons_self
              obtain ⟨va2, vc2, -, -, hb2, hsl2, -⟩ := h7.ref ⟨x, 20, xs2, F3⟩ (List.mem_cons_of_mem _ List.mem_cons_self)
              obtain ⟨va3, vc3, -, -, hb3, hsl3, -⟩ := h7.ref ⟨m, 20, us, F1⟩ (List.mem_cons_of_mem _ (List.mem_cons_of_mem _ List.mem_cons_self))
              simp only at hb1 hsl1 hb2 hsl2 hb3 hsl3
              have z1 := lt_of_heap hb1
              have z2 := lt_of_heap hb2
              have z3 := lt_of_heap hb3
              have a0 := cell_of hb1 0
              have a1 := cell_of hb1 1
              have b0 := cell_of hb2 0
              have b1 := cell_of hb2 1
              have c0 := cell_of hb3 0
              have c1 := cell_of hb3 1
              simp at a0 a1 b0 b1 c0 c1
              obtain ⟨d1, hd1⟩ : ∃ d1, decide (20 = 20 ∧ us = xs2) = d1 := ⟨_, rfl⟩
              obtain ⟨d2, hd2⟩ : ∃ d2, decide (20 = r ∧ us = ns2) = d2 := ⟨_, rfl⟩
              have hd3 : decide (r = 20 ∧ ns2 = us) = d2 := by rw [← hd2]; apply decide_eq_decide.2; constructor <;> (rintro ⟨u, v⟩; exact ⟨u.symm, v.symm⟩)
              have hQ := fun w1 (hu : Upto [] w7 w1) => (h7.ext hu).pool ⟨q, r, ns2, S2'⟩ List.mem_cons_self
              have hC := fun w1 (hu : Upto [] w7 w1) => (h7.ext hu).pool ⟨c, 20, xs2, S3'⟩ (List.mem_cons_of_mem _ List.mem_cons_self)
              have hP := fun w1 (hu : Upto [] w7 w1) => (h7.ext hu).pool ⟨p, 20, us, S1⟩ (List.mem_cons_of_mem _ (List.mem_cons_of_mem _ List.mem_cons_self))
              simp only at hQ hC hP
              have K1 : Hid (∀ w1, Upto [] w7 w1 → Calls Tryd.prog 19 #[.pointer (some ⟨p, 0, none⟩), .agg #[.int .i64 20, .slice va3 us.length vc3]] w1 fun e w' => e = .returned (.bool true) ∧ Upto [] w7 w') := fun w1 hu =>
                (seen_calls p 20 20 us S1 va3 vc3 w1 (hP w1 hu) (hsl3.ext hu)).mono fun e w' ⟨a, b⟩ => ⟨a, hu.trans_ext b⟩
              have K2 : Hid (∀ w1, Upto [] w7 w1 → Calls Tryd.prog 19 #[.pointer (some ⟨c, 0, none⟩), .agg #[.int .i64 20, .slice va2 xs2.length vc2]] w1 fun e w' => e = .returned (.bool true) ∧ Upto [] w7 w') := fun w1 hu =>
                (seen_calls c 20 20 xs2 S3' va2 vc2 w1 (hC w1 hu) (hsl2.ext hu)).mono fun e w' ⟨a, b⟩ => ⟨a, hu.trans_ext b⟩
              have K3 : Hid (∀ w1, Upto [] w7 w1 → Calls Tryd.prog 31 #[.pointer (some ⟨p, 0, none⟩), .pointer (some ⟨c, 0, none⟩)] w1 fun e w' => e = .returned (.bool d1) ∧ Upto [] w7 w') := fun w1 hu => by
                have := equal_calls p c 20 20 us xs2 S1 S3' w1 (hP w1 hu) (hC w1 hu)
                rw [hd1] at this
                exact this.mono fun e w' ⟨a, b⟩ => ⟨a, hu.trans_ext b⟩
              have K4 : Hid (∀ w1, Upto [] w7 w1 → Calls Tryd.prog 32 #[.agg #[.int .i64 20, .slice va3 us.length vc3], .agg #[.int .i64 20, .slice va2 xs2.length vc2]] w1 fun e w' => e = .returned (.bool d1) ∧ Upto [] w7 w') := fun w1 hu => by
                have := same_calls 20 20 va3 va2 vc3 vc2 us xs2 w1 (hsl3.ext hu) (hsl2.ext hu) (by omega) (by omega)
                rw [hd1] at this
                exact this.mono fun e w' ⟨a, b⟩ => ⟨a, hu.trans_ext b⟩
              have K5 : Hid (∀ w1, Upto [] w7 w1 → Calls Tryd.prog 31 #[.pointer (some ⟨p, 0, none⟩), .pointer (some ⟨q, 0, none⟩)] w1 fun e w' => e = .returned (.bool d2) ∧ Upto [] w7 w') := fun w1 hu => by
                have := equal_calls p q 20 r us ns2 S1 S2' w1 (hP w1 hu) (hQ w1 hu)
                rw [hd2] at this
                exact this.mono fun e w' ⟨a, b⟩ => ⟨a, hu.trans_ext b⟩
              have K6 : Hid (∀ w1, Upto [] w7 w1 → Calls Tryd.prog 32 #[.agg #[.int .i64 20, .slice va3 us.length vc3], .agg #[.int .i64 r, .slice va1 ns2.length vc1]] w1 fun e w' => e = .returned (.bool d2) ∧ Upto [] w7 w') := fun w1 hu => by
                have := same_calls 20 r va3 va1 vc3 vc1 us ns2 w1 (hsl3.ext hu) (hsl1.ext hu) (by omega) (by omega)
                rw [hd2] at this
                exact this.mono fun e w' ⟨a, b⟩ => ⟨a, hu.trans_ext b⟩
              have K7 : Hid (∀ w1, Upto [] w7 w1 → Calls Tryd.prog 31 #[.pointer (some ⟨q, 0, none⟩), .pointer (some ⟨p, 0, none⟩)] w1 fun e w' => e = .returned (.bool d2) ∧ Upto [] w7 w') := fun w1 hu => by
                have := equal_calls q p r 20 ns2 us S2' S1 w1 (hQ w1 hu) (hP w1 hu)
                rw [hd3] at this
                exact this.mono fun e w' ⟨a, b⟩ => ⟨a, hu.trans_ext b⟩
              have hw := Upto.refl [] w7
              clear hQ hC hP hd1 hd2 hd3 hb1 hb2 hb3 hsl1 hsl2 hsl3
              go_region_held3 (fun w' => w'.cell? ⟨nb, 0, none⟩ = some (.int .i64 r) ∧ w'.cell? ⟨nb, 1, none⟩ = some (.slice va1 ns2.length vc1) ∧ w'.cell? ⟨x, 0, none⟩ = some (.int .i64 20) ∧ w'.cell? ⟨x, 1, none⟩ = some (.slice va2 xs2.length vc2) ∧
                  w'.cell? ⟨m, 0, none⟩ = some (.int .i64 20) ∧ w'.cell? ⟨m, 1, none⟩ = some (.slice va3 us.length vc3))
                (first | exact ⟨a0, a1, b0, b1, c0, c1⟩ | exact ⟨(hw.cell (p := ⟨nb, 0, none⟩) z1 (by simp)).trans a0, (hw.cell (p := ⟨nb, 1, none⟩) z1 (by simp)).trans a1, (hw.cell (p := ⟨x, 0, none⟩) z2 (by simp)).trans b0, (hw.cell (p := ⟨x, 1, none⟩) z2 (by simp)).trans b1, (hw.cell (p := ⟨m, 0, none⟩) z3 (by simp)).trans c0, (hw.cell (p := ⟨m, 1, none⟩) z3 (by simp)).trans c1⟩ | go_keep)
                (first
                  | (go_at_call_of 19 (Value.pointer (some ⟨p, 0, none⟩)); refine (K1.out _ (by first | exact hw | exact hw.drew)).mono ?_; clear K1 hw; rintro e w8 ⟨rfl, hw⟩)
                  | (go_at_call_of 19 (Value.pointer (some ⟨c, 0, none⟩)); refine (K2.out _ (by first | exact hw | exact hw.drew)).mono ?_; clear K2 hw; rintro e w8 ⟨rfl, hw⟩)
                  | (go_at_call_of 31 (Value.pointer (some ⟨q, 0, none⟩)); with_reducible refine (K7.out _ (by first | exact hw | exact hw.drew)).mono ?_; clear K7 hw; rintro e w8 ⟨rfl, hw⟩)
                  | (go_at_call_of 31 (Value.pointer (some ⟨p, 0, none⟩)); with_reducible refine (K3.out _ (by first | exact hw | exact hw.drew)).mono ?_; clear K3 hw; rintro e w8 ⟨rfl, hw⟩)
                  | (go_at_call_of 31 (Value.pointer (some ⟨p, 0, none⟩)); with_reducible refine (K5.out _ (by first | exact hw | exact hw.drew)).mono ?_; clear K5 hw; rintro e w8 ⟨rfl, hw⟩)
                  | (go_at_call 32; with_reducible refine (K4.out _ (by first | exact hw | exact hw.drew)).mono ?_; clear K4 hw; rintro e w8 ⟨rfl, hw⟩)
                  | (go_at_call 32; with_reducible refine (K6.out _ (by first | exact hw | exact hw.drew)).mono ?_; clear hw; rintro e w8 ⟨rfl, hw⟩))
              all_goals
                go_wp2_with fail
                have hst := (h7.ext hw).perm (List.Perm.swap _ _ _) (List.Perm.swap _ _ _)
                go_roundw
                case rel => exact ⟨i + 1, xs2, ns2, S1, S2', S3', F1, F2, F3, by omega, by omega, hul, by omega, by omega, by go_num, hst⟩
                case measure => simp [intOf]; omega
        · go_wp2_with fail
          all_goals
            go_meet
            exact ⟨xs, ns, S1, S2, S3, F1, F2, F3, by omega, h⟩
    case rest =>
      clear hst9
      obtain ⟨xs, ns, S1, S2, S3, F1, F2, F3, hnl, h⟩ := hcut
      obtain ⟨va, vc, hF, hn, hb, hsl, hlg⟩ := h.ref ⟨nb, r, ns, F2⟩ (List.mem_cons_of_mem _ List.mem_cons_self)
      simp only at hF hn hb hsl hlg
      have k0 := cell_of hb 0
      have k1 := cell_of hb 1
      simp at k0 k1
      have HS := Lib.hid (seen_calls q r r ns S2 va vc _ (h.pool ⟨q, r, ns, S2⟩ (List.mem_cons_of_mem _ List.mem_cons_self)) hsl)
      have hup := h.up
      go_wp2_with (go_at_call 19; refine HS.out.mono ?_; rintro e w9 ⟨rfl, hu9⟩)
      go_ret
      exact ⟨rfl, hup.trans_ext hu9⟩
end Go.Proofs.YtffnkjlobflhcaaDoor
