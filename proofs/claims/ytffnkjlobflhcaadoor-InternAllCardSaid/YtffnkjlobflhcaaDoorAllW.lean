/- InternAll: the walk. -/
import Derived.Test.YtffnkjlobflhcaaDoorAllIt
import Derived.Test.YtffnkjlobflhcaaDoorSt
import Derived.Test.YtffnkjlobflhcaaDoorFew
import Derived.Test.YtffnkjlobflhcaaDoorClones
namespace Go.Proofs.YtffnkjlobflhcaaDoor
open Go.RowKit Go.PL Go.Maps Go.Shelf

attribute [local go_sem] Oper.semAt_some

def Al1 (w : World) (p m n : Nat) (iv' : Value) (wr : World) : Prop :=
  ∃ (i : Nat) (us : List ByteArray) (S1 F1 : List Nat), i ≤ n ∧ i ≤ 30 ∧ us.length ≤ i ∧ iv' = .int .i64 i ∧ St w wr [⟨p, 50, us, S1⟩] [⟨m, 50, us, F1⟩]

def allAct (us : List ByteArray) (a : Act) (x : KeyNo us) : Act :=
  { tmps := (((a.tmps.setIfInBounds 62 (.int .i64 x.1)).setIfInBounds 63 (.string (us[x.1]'x.2))).setIfInBounds 11 (.int .i64 x.1)).setIfInBounds 12 (.string (us[x.1]'x.2)), defers := [] }

/-- what stands beside the loop's counter -/
structure AlRest (w : World) (rb ab m M vc : Nat) (va : Option Addr) (us : List ByteArray) (W : World) : Prop where
  r : Boxed W rb 4 (.bool false)
  most : Boxed W (ab + 1) 3 (.int .i64 M)
  ref : W.heap[m]? = some (.cells #[.int .i64 50, .slice va us.length vc] 38 (0, 0))
  sl : SlC W (.slice va us.length vc) (us.map .string)
  up : Upto [] w W
structure AlI (w : World) (rb ab m M vc : Nat) (va : Option Addr) (us : List ByteArray) (pre : List (KeyNo us)) (W : World) : Prop where
  num : nums pre = List.range pre.length
  le : pre.length ≤ M
  at' : Boxed W ab 3 (.int .i64 pre.length)
  rest : AlRest w rb ab m M vc va us W
/-- how the loop is left: by the break, when one more than M have come -/
structure AlX (w : World) (rb ab m M vc : Nat) (va : Option Addr) (us : List ByteArray) (pre : List (KeyNo us)) (W : World) : Prop where
  len : pre.length = M + 1
  at' : Boxed W ab 3 (.int .i64 (M + 1))
  rest : AlRest w rb ab m M vc va us W
def AlIx (w : World) (rb ab m M vc : Nat) (va : Option Addr) (us : List ByteArray) (c : Code) (pre : List (KeyNo us)) (W : World) : Prop :=
  (c = .ret ∧ nums pre ≠ List.range pre.length) ∨ (c = .exit 2 ∧ AlX w rb ab m M vc va us pre W)

theorem boxed_upto {W W' : World} {T : List Nat} {b : Nat} {t : TypeId} {v : Value} (h : Boxed W b t v) (hu : Upto T W W') (hb : b ∉ T) : Boxed W' b t v := hu.at h hb
theorem AlRest.upto {w W W' : World} {T : List Nat} {rb ab m M vc B : Nat} {va : Option Addr} {us : List ByteArray} (h : AlRest w rb ab m M vc va us W) (hu : Upto T W W') (hT : ∀ k ∈ T, B ≤ k) (h1 : rb < B) (h2 : ab + 1 < B) (h3 : m < B) (h4 : ∀ g, (Value.slice va us.length vc).ownBlock = some g → g < B) (h5 : w.heap.size ≤ B) : AlRest w rb ab m M vc va us W' :=
  ⟨boxed_upto h.r hu (fun hm => by have := hT _ hm; omega), boxed_upto h.most hu (fun hm => by have := hT _ hm; omega), hu.at h.ref (fun hm => by have := hT _ hm; omega),
    h.sl.upto hu (fun g o n c he _ hm => by
      simp only [Value.slice.injEq] at he
      obtain ⟨rfl, -, -⟩ := he
      have := hT _ hm
      have := h4 g (by simp [Value.ownBlock])
      omega), h.up.trans hu (fun k hk => by have := hT k hk; right; omega)⟩

theorem upto_row {W W' : World} {row : Option Nat} (hg : W.grownBy W' row) : Upto row.toList W W' := (Upto.refl _ _).grown hg (fun k hk => Or.inl (by simp [hk]))
theorem alI_own {w : World} {rb ab m M vc B : Nat} {va : Option Addr} {us : List ByteArray} (h1 : rb < B) (h2 : ab + 1 < B) (h3 : m < B) (h4 : ∀ g, (Value.slice va us.length vc).ownBlock = some g → g < B) (h5 : w.heap.size ≤ B) :
    OwnFrom B (fun (pre : List (KeyNo us)) W => AlI w rb ab m M vc va us pre W) := fun s W W' row hs hg hr => by
  have hT : ∀ k ∈ row.toList, B ≤ k := fun k hk => (hr k (Option.mem_toList.1 hk)).1
  exact ⟨hs.num, hs.le, boxed_upto hs.at' (upto_row hg) (fun hm => by have := hT _ hm; omega), hs.rest.upto (upto_row hg) hT h1 h2 h3 h4 h5⟩
theorem alIx_own {w : World} {rb ab m M vc B : Nat} {va : Option Addr} {us : List ByteArray} (h1 : rb < B) (h2 : ab + 1 < B) (h3 : m < B) (h4 : ∀ g, (Value.slice va us.length vc).ownBlock = some g → g < B) (h5 : w.heap.size ≤ B) (c : Code) :
    OwnFrom B (fun (pre : List (KeyNo us)) W => AlIx w rb ab m M vc va us c pre W) := fun s W W' row hs hg hr => by
  have hT : ∀ k ∈ row.toList, B ≤ k := fun k hk => (hr k (Option.mem_toList.1 hk)).1
  rcases hs with hs | ⟨hc, hs⟩
  · exact Or.inl hs
  · exact Or.inr ⟨hc, hs.len, boxed_upto hs.at' (upto_row hg) (fun hm => by have := hT _ hm; omega), hs.rest.upto (upto_row hg) hT h1 h2 h3 h4 h5⟩

theorem AlRest.count {w W : World} {rb ab m M vc : Nat} {va : Option Addr} {us : List ByteArray} (h : AlRest w rb ab m M vc va us W) (h1 : rb < ab) (h2 : m < ab) (h3 : ∀ g, (Value.slice va us.length vc).ownBlock = some g → g < ab) (h4 : w.heap.size ≤ ab) (v : Value) :
    AlRest w rb ab m M vc va us (W.setCell ⟨ab, 0, none⟩ v) :=
  ⟨h.r.other (by omega) _, h.most.other (by omega) _, set_other h.ref (by omega) _ _, h.sl.upto ((Upto.refl [ab] W).setCell (Or.inl (by simp)) v) (fun g o n c he _ hm => by
    simp only [Value.slice.injEq] at he
    obtain ⟨rfl, -, -⟩ := he
    have := h3 g (by simp [Value.ownBlock])
    simp at hm; omega), h.up.setCell (Or.inr h4) _⟩
theorem nums_snoc {us : List ByteArray} {pre : List (KeyNo us)} {x : Nat} {hx : x < us.length} : nums (pre ++ [(⟨x, hx⟩ : KeyNo us)]) = nums pre ++ [x] := by
  unfold nums; rw [List.map_append]; rfl
theorem len_snoc {us : List ByteArray} {pre : List (KeyNo us)} {x : KeyNo us} : (pre ++ [x]).length = pre.length + 1 := by
  rw [List.length_append]; rfl

set_option maxRecDepth 100000 in
set_option maxHeartbeats 3200000 in
theorem all_walk (ka : Option Addr) (kc : Nat) (keys : List ByteArray) (stop : Int) (w : World) (hk : SlC w (.slice ka keys.length kc) (keys.map .string)) (hs : ∀ k ∈ keys, k.size ≤ 9223372036854775807) (hl : keys.length ≤ 9223372036854775807) :
    Calls Tryd.prog 6 #[.slice ka keys.length kc, .int .i64 stop] w fun e w' => e = .returned (.bool true) ∧ Upto [] w w' := by
  have H1 := Lib.hid (new_calls 50 (by omega))
  have H2 := Lib.hid known_calls
  have hu0 : Upto [] w (w.alloc (.cells #[.bool false] 4)) := (Upto.refl [] w).alloc _
  have hb0 := new_at w (.cells #[.bool false] 4)
  obtain ⟨M, hM, hM2⟩ : ∃ M : Nat, IntKind.u64.wrap stop % 40 = M ∧ M < 40 := by
    have h1 : 0 ≤ IntKind.u64.wrap stop := by simp [IntKind.wrap, IntKind.signed, IntKind.bits]; omega
    exact ⟨(IntKind.u64.wrap stop % 40).toNat, by omega, by omega⟩
  have HM := Lib.hid hM
  clear hM
  refine (callsIn_wide (n := 6)).1 ?_
  refine callsIn_of_wp_marks Tryd.func6 rfl trivial ?_ rfl
  simp only [Tryd.ntmps6, List.size_toArray, List.length_cons, List.length_nil, Nat.reduceAdd, Nat.reduceSub, Array.replicate_succ, Array.replicate_zero, List.push_toArray, List.append_toArray, List.nil_append, List.cons_append]
  refine wpIn_wide.2 ?_
  refine Code.wp_mono NoPanic.imp ?_
  go_wp2_with fail
  refine (H1.out _).mono ?_
  rintro e w1 ⟨p, S0, rfl, hp0, hs0, hu1⟩
  go_wp2_with fail
  refine (H2.out _).mono ?_
  rintro e w2 ⟨rfl, hu2⟩
  obtain ⟨rb, hrb⟩ : ∃ rb, rb = w.heap.size := ⟨_, rfl⟩
  rw [← hrb] at hb0 ⊢
  have HRB := Lib.hid hrb
  clear hrb
  generalize w.alloc (.cells #[.bool false] 4) = w0 at *
  have hst0 := ((St.nil w0).addPool hp0 hs0 hu1).ext hu2
  clear hp0 hs0 hu1 hu2 H1 H2
  go_upto_block 0 with fail
  have hst1 := hst0.addRef (RefX.fresh (room := 50) (new_at w2 (.cells #[.int .i64 50, .slice none 0 0] 38))) ((Upto.refl [] w2).alloc _) (Nat.le_refl _) (by simp)
  clear hst0
  obtain ⟨m, hm⟩ : ∃ m, m = w2.heap.size := ⟨_, rfl⟩
  rw [← hm] at hst1 ⊢
  generalize w2.alloc (.cells #[.int .i64 50, .slice none 0 0] 38) = w4 at *
  clear hm
  go_cut [] from 28 (fun wx => ∃ (us : List ByteArray) (S1 F1 : List Nat), us.length ≤ 30 ∧ St w0 wx [⟨p, 50, us, S1⟩] [⟨m, 50, us, F1⟩])
  case first =>
    go_wp2_with fail
    go_loopw [8] (fun iv' wr => Al1 w0 p m keys.length iv' wr) (fun i _ => 30 - (intOf i).toNat)
    case atStart => exact ⟨0, [], S0, _, by omega, by omega, by simp, rfl, hst1⟩
    case round =>
      obtain ⟨i, us, S1, F1, hi, hi20, hul, rfl, h⟩ := hrel
      by_cases hlt : i < keys.length ∧ i < 30
      · obtain ⟨hl1, hl2⟩ := hlt
        rcases hk with ⟨h0, _⟩ | ⟨g, o, c, hka, hc⟩
        · simp at h0; rw [h0] at hl1; simp at hl1
        simp only [Value.slice.injEq] at hka
        obtain ⟨rfl, -, rfl⟩ := hka
        have hk := hc i (.string keys[i]) (by simp [hl1])
        have hks := hs _ (List.getElem_mem hl1)
        have hgw : g < w.heap.size := World.block_lt_of_cell? w _ hk
        have hgw0 : g < w0.heap.size := Nat.lt_of_lt_of_le hgw hu0.size
        have hk0 := (hu0.cell (p := ⟨g, o + i, none⟩) hgw (by simp)).trans hk
        have hk1 := (h.up.cell (p := ⟨g, o + i, none⟩) hgw0 (by simp)).trans hk0
        generalize keys[i] = k at *
        have HF := Lib.hid (fun w' => few_is k w' hks)
        have hfk := fewF_size k
        obtain ⟨us', n', f', hI⟩ : ∃ us' n' f', internF 50 us (fewF k) = (us', n', f') := ⟨_, _, _, rfl⟩
        have hul' : us'.length ≤ us.length + 1 := by have := internF_len (us := us) (k := fewF k) (room := 50); rw [hI] at this; exact this
        obtain ⟨va, vc, hF, hn, hb, hsl, hlg⟩ := h.ref ⟨m, 50, us, F1⟩ (by simp)
        simp only at hF hn hb hsl hlg
        have HR : Hid (∀ w1, Upto [] wr w1 → Calls Tryd.prog 16 #[.agg #[.int .i64 50, .slice va us.length vc], .string (fewF k)] w1 fun e w' =>
          ∃ va' vc', e = .returned (.tuple #[.agg #[.int .i64 50, .slice va' us'.length vc'], .int .i64 n', .int .i64 f']) ∧
            SlC w' (.slice va' us'.length vc') (us'.map .string) ∧ Upto [] wr w' ∧ ∀ g, (Value.slice va' us'.length vc').ownBlock = some g → (Value.slice va us.length vc).ownBlock = some g ∨ wr.heap.size ≤ g ∧ g < w'.heap.size) :=
          fun w1 hu => (rid_calls us (fewF k) 50 va vc w1 (hsl.ext hu) (by omega)).mono fun e w' ⟨a, b, c, d, e, f⟩ => by
            rw [hI] at c d f
            exact ⟨a, b, c, d, hu.trans_ext e, fun g hg => (f g hg).imp id (fun h => ⟨Nat.le_trans hu.size h.1, h.2⟩)⟩
        have HI : Hid (∀ w1 S1, PoolX w1 p 50 us S1 → Calls Tryd.prog 18 #[.pointer (some ⟨p, 0, none⟩), .string (fewF k)] w1 fun e w' => e = .returned (.tuple #[.int .i64 n', .int .i64 f']) ∧
            ∃ S', PoolX w' p 50 us' S' ∧ Within w1 S1 S' ∧ Upto S1 w1 w') := fun w1 S1 hp => by
          have := intern_calls hp (fewF k) (by unfold maxLen; omega)
          rw [hI] at this
          exact this
        clear hI
        have q0 := cell_of hb 0
        have q1 := cell_of hb 1
        simp at q0 q1
        have hmw := lt_of_heap hb
        have hgr : g < wr.heap.size := by have := h.up.size; omega
        have hwr := Upto.refl [] wr
        clear hk
        go_wp2_with fail
        subst hF
        go_region_law (first
          | (go_simp; go_at_call 17; refine (HF.out _).mono ?_; rintro e w' ⟨rfl, rfl⟩)
          | (go_simp; go_at_call 16; refine (HR.out _ (by exact hwr.drew)).mono ?_; rintro e w3 ⟨va', vc', rfl, hv3, hw3, hf3⟩; have hb3 := hw3.at hb (by simp); have m0 := cell_of hb3 0; have m1 := cell_of hb3 1; have f0 := free_of hb3 0; have f1 := free_of hb3 1; simp at m0 m1))
        all_goals
          obtain ⟨hR', hW', hU'⟩ := RefX.put hn hb (fun g hg => hlg g (List.mem_cons_of_mem _ hg)) hw3 hv3 hf3
          have hst := h.put hR' hW' hU'
          have hk2 := (hst.up.cell (p := ⟨g, o + i, none⟩) hgw0 (by simp)).trans hk0
          change SlC w3 _ _ at hv3
          clear hR' hW' hU' h HR hwr hb3 m0 m1 f0 f1 hw3 hv3 q0 q1
          simp only [show ((50 : Nat) : Int) = 50 from rfl] at hst hk2
          generalize (w3.setCell ⟨m, 0, none⟩ (.int .i64 50)).setCell ⟨m, 1, none⟩ (.slice va' us'.length vc') = w4 at *
          go_wp2_with (first
            | (go_at_call 17; refine (HF.out _).mono ?_; rintro e w' ⟨rfl, rfl⟩)
            | (go_at_call 18; refine (HI.out _ _ (hst.pool _ List.mem_cons_self)).mono ?_; rintro e w6 ⟨rfl, S', hp6, hs6, hu6⟩; have hst6 := hst.intern hp6 hs6 hu6))
          go_roundw
          case rel => exact ⟨i + 1, us', S', _, by omega, by omega, by omega, by go_num, hst6⟩
          case measure => simp [intOf]; omega
      · go_wp2_with fail
        all_goals
          go_meet
          exact ⟨us, S1, F1, by omega, h⟩
  case rest =>
    clear hst1
    obtain ⟨us, S, F, hul, h⟩ := hcut
    have hp := h.pool ⟨p, 50, us, S⟩ List.mem_cons_self
    obtain ⟨va, vc, hF, hn, hb, hsl, hlg⟩ := h.ref ⟨m, 50, us, F⟩ (by simp)
    simp only at hp hF hn hb hsl hlg
    have hrb4 := h.up.at hb0 (by simp)
    have hup := hu0.trans_ext h.up
    have h1 : 0 ≤ IntKind.u64.wrap stop := by simp [IntKind.wrap, IntKind.signed, IntKind.bits]; omega
    have hM := HM.out
    go_wp2_with fail
    refine (all_calls p _).mono ?_
    rintro e w5 ⟨rfl, hw5⟩
    clear hM h1
    obtain ⟨ab, hab⟩ : ∃ ab, ab = wc.heap.size := ⟨_, rfl⟩
    have hsz : w5.heap.size = ab + 1 + 1 + 1 := by rw [hw5, hab]; simp
    have hu5 : Upto [] wc w5 := by rw [hw5]; exact (((Upto.refl [] wc).alloc _).alloc _).alloc _
    have k1 : Boxed w5 ab 3 (.int .i64 0) := by
      rw [hw5, hab]; exact ((Boxed.new wc 3 (.int .i64 0)).alloc _).alloc _
    have k2 : Boxed w5 (ab + 1) 3 (.int .i64 M) := by
      have := (Boxed.new (wc.alloc (.cells #[.int .i64 0] 3)) 3 (.int .i64 M)).alloc (.cells #[.pointer (some ⟨p, 0, none⟩)] 39)
      rw [World.size_alloc, ← hab] at this
      rw [hw5]; exact this
    have k3 : w5.heap[ab + 1 + 1]? = some (.cells #[.pointer (some ⟨p, 0, none⟩)] 39 (0, 0)) := by
      have := new_at ((wc.alloc (.cells #[.int .i64 0] 3)).alloc (.cells #[.int .i64 M] 3)) (.cells #[.pointer (some ⟨p, 0, none⟩)] 39)
      rw [World.size_alloc, World.size_alloc, ← hab] at this
      rw [hw5]; exact this
    have hrest : AlRest w rb ab m M vc va us w5 := ⟨hu5.at hrb4 (by simp), k2, hu5.at hb (by simp), hsl.ext hu5, hup.trans_ext hu5⟩
    have hp5 := hp.upto hu5 (by simp)
    have g1 : rb < ab := by have := lt_of_heap hrb4; omega
    have g2 : m < ab := by have := lt_of_heap hb; omega
    have g3 : ∀ g, (Value.slice va us.length vc).ownBlock = some g → g < ab := fun g hg => by have := hlg g (by rw [hF]; simp [hg]); omega
    have g4 : w.heap.size ≤ ab := by have := hup.size; omega
    have hpS : ∀ k ∈ S, k < ab := fun k hk => by have := hp.lt k hk; omega
    simp only [World.size_alloc, ← hab]
    clear hw5 hab hu5 hrb4 hb hsl hup hp hlg hF hn h k2
    go_wp2_with fail
    refine (wpIn_wide (n := 6)).1 ?_
    refine wpIn_rangeFunc_at rfl (by omega) (gf := 36) (lb := #[.pointer (some ⟨ab + 1 + 1, 0, none⟩)]) rfl trivial (enters_of Tryd.func36 (by kernel_rfl) rfl)
      (all_stops (6 - 1) (by omega) p 50 (ab + 1 + 1) us S w5 k3 hp5) (fun h k => h.trans k) ?kb (Below.refl _ _) (fun _ => rfl)
      (fun pre W => AlI w rb ab m M vc va us pre W) (fun c pre W => AlIx w rb ab m M vc va us c pre W)
      (alI_own (by omega) (by omega) (by omega) (fun g hg => by have := g3 g hg; omega) (by omega)) (alIx_own (by omega) (by omega) (by omega) (fun g hg => by have := g3 g hg; omega) (by omega))
      ⟨rfl, Nat.zero_le _, k1, hrest⟩ (allAct us) ?assign ?body ?done ?stop
    case kb =>
      intro W l o o' hl ho _ _ k hk
      refine World.putObj_heap_other ?_
      rintro rfl
      rcases List.mem_cons.1 hk with rfl | hk
      · omega
      · have := hpS _ hk; omega
    case assign =>
      intro l x W K hK
      unfold encsA
      unfold allAct at hK
      gi_wp2
      simpa using hK
    case body =>
      rintro l pre x W ⟨hnum, hle, hat, hrest⟩ hlen
      simp only [allAct, List.setIfInBounds_toArray, List.set_cons_succ, List.set_cons_zero]
      obtain ⟨x, hx⟩ := x
      have hR := hrest
      obtain ⟨r1, r2, r3, r4, r5⟩ := hrest
      have c1 := hat.cell
      have f1 := hat.frozen
      have c2 := r2.cell
      have c3 := r1.cell
      have f3 := r1.frozen
      have c4 := cell_of r3 1
      simp at c4
      rcases r4 with ⟨h0, _⟩ | ⟨g, o, c, hs4, hc4⟩
      · simp at h0; rw [h0] at hx; simp at hx
      simp only [Value.slice.injEq] at hs4
      obtain ⟨rfl, -, rfl⟩ := hs4
      by_cases hxe : x = pre.length
      · subst hxe
        have c5 := hc4 pre.length (.string us[pre.length]) (by simp [hx])
        have hnn : nums (pre ++ [(⟨pre.length, hx⟩ : KeyNo us)]) = List.range (pre.length + 1) := by
          rw [nums_snoc, hnum, List.range_succ]
        have HN := Lib.hid hnn
        clear hnn
        have HC := Lib.hid (hR.count g1 g2 g3 g4 (.int .i64 (pre.length + 1)))
        have HA := Lib.hid (hat.set (.int .i64 (pre.length + 1)))
        have HK : Hid (KeepsL ((ab + 1 + 1) :: S) W (W.setCell ⟨ab, 0, none⟩ (.int .i64 (pre.length + 1)))) := fun k hk => Below.heap_setCell _ _ _ _ (by
          rcases List.mem_cons.1 hk with rfl | hk
          · show ab + 1 + 1 ≠ ab; omega
          · have := hpS _ hk; show k ≠ ab; omega)
        clear hnum hR hc4 hat r1 r2 r3 r5 hrest
        gi_wp2
        · refine ⟨KeepsOthers.setCell _ _ _, Or.inr ⟨rfl, by rw [len_snoc]; omega, ?_, HC.out⟩⟩
          have hm : pre.length = M := by omega
          have := HA.out
          rw [hm] at this
          rw [hm]
          exact this
        · refine ⟨KeepsOthers.setCell _ _ _, HK.out, ?_, by rw [len_snoc]; omega, by rw [len_snoc]; exact HA.out, HC.out⟩
          rw [HN.out, len_snoc]
      · have hnn : nums (pre ++ [(⟨x, hx⟩ : KeyNo us)]) ≠ List.range (pre ++ [(⟨x, hx⟩ : KeyNo us)]).length := by
          rw [nums_snoc, len_snoc, hnum, List.range_succ]
          intro e
          have := List.append_cancel_left e
          simp at this
          exact hxe this
        have HN := Lib.hid hnn
        clear hnn
        clear hnum hR hc4 hat r1 r2 r3 r5 hrest
        gi_wp2
        exact ⟨KeepsOthers.setCell _ _ _, Or.inl ⟨rfl, HN.out⟩⟩
    case done =>
      rintro D xs W hD hS ⟨hnum, hle, hat, hrest⟩ hK
      have hxl : xs.length = us.length := by have := congrArg List.length hS; rw [nums, List.length_map, List.length_range] at this; exact this
      rw [hxl] at hat hle
      obtain ⟨r1, r2, r3, r4, r5⟩ := hrest
      have c1 := hat.cell
      have c2 := r2.cell
      have c3 := r1.cell
      have f3 := r1.frozen
      have c4 := cell_of r3 1
      simp at c4
      clear hS hnum hxl r4
      go_wp2
      have hD' : (W.setCell ⟨rb, 0, none⟩ (.bool true)).heap[D]? = some (.deferred (some [])) := set_other hK (by omega) _ _
      have hr' : ((W.setCell ⟨rb, 0, none⟩ (.bool true)).putObj D (.deferred none)).cell? ⟨rb, 0, none⟩ = some (.bool true) := by
        have : Boxed ((W.setCell ⟨rb, 0, none⟩ (.bool true)).putObj D (.deferred none)) rb 4 (.bool true) := (World.putObj_heap_other (by omega)).trans (r1.set (.bool true))
        exact this.cell
      have hrw : w.heap.size ≤ rb := by have := HRB.out; omega
      refine ⟨by simp, .inl ⟨_, _, rfl, run_takeDeferred hD', ?_⟩⟩
      refine ⟨.bool true, by simp [results, Tryd.results6, go_sem, hr'], rfl, ?_⟩
      exact (r5.setCell (Or.inr hrw) _).grown (grownBy_putObj' _ D _) (fun k hk => by cases hk; right; omega)
    case stop =>
      rintro D c pre W hD ⟨hp1, hp2⟩ hx hK
      rcases hx with ⟨-, hx⟩ | ⟨rfl, hlen, hat, hrest⟩
      · exact absurd hp1 hx
      obtain ⟨r1, r2, r3, r4, r5⟩ := hrest
      have c1 := hat.cell
      have c2 := r2.cell
      have c3 := r1.cell
      have f3 := r1.frozen
      have c4 := cell_of r3 1
      simp at c4
      have hle : M + 1 ≤ us.length := by omega
      clear hp1 hlen r4 hp2
      refine wpIn_wide.2 ?_
      go_wp2
      have hD' : (W.setCell ⟨rb, 0, none⟩ (.bool true)).heap[D]? = some (.deferred (some [])) := set_other hK (by omega) _ _
      have hr' : ((W.setCell ⟨rb, 0, none⟩ (.bool true)).putObj D (.deferred none)).cell? ⟨rb, 0, none⟩ = some (.bool true) := by
        have : Boxed ((W.setCell ⟨rb, 0, none⟩ (.bool true)).putObj D (.deferred none)) rb 4 (.bool true) := (World.putObj_heap_other (by omega)).trans (r1.set (.bool true))
        exact this.cell
      have hrw : w.heap.size ≤ rb := by have := HRB.out; omega
      refine ⟨by simp, .inl ⟨_, _, rfl, run_takeDeferred hD', ?_⟩⟩
      refine ⟨.bool true, by simp [results, Tryd.results6, go_sem, hr'], rfl, ?_⟩
      exact (r5.setCell (Or.inr hrw) _).grown (grownBy_putObj' _ D _) (fun k hk => by cases hk; right; omega)
end Go.Proofs.YtffnkjlobflhcaaDoor
