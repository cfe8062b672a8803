/- InternSlices: the walk. -/
import Derived.Test.YtffnkjlobflhcaaDoorSIds
import Derived.Deep.DeepCutAuto
import Derived.Deep.CutBlock
import Derived.Test.YtffnkjlobflhcaaDoorExt
import Derived.Test.YtffnkjlobflhcaaDoorArgs2
namespace Go.Proofs.YtffnkjlobflhcaaDoor
open Go.RowKit Go.PL Go.Maps

def SlR (w : World) (room l mb n : Nat) (iv' : Value) (wr : World) : Prop :=
  ∃ (i : Nat) (xs : List (List Int)), i ≤ n ∧ i ≤ 30 ∧ xs.length ≤ i ∧ iv' = .int .i64 i ∧ SIdX w room l mb xs wr

set_option maxRecDepth 100000 in
set_option maxHeartbeats 3200000 in
theorem slices_walk (most : Int) (ka oa : Option Addr) (kc oc : Nat) (ls : List Value) (other : List Int) (w : World) (hk : SlC w (.slice ka ls.length kc) ls) (hl : ls.length ≤ 9223372036854775807)
    (he : ∀ v ∈ ls, ∃ ns, ArgI w v ns) (ho : ArgI w (.slice oa other.length oc) other) :
    Calls Tryd.prog 7 #[.int .i64 most, .slice ka ls.length kc, .slice oa other.length oc] w fun e w' => e = .returned (.bool true) ∧ Upto [] w w' := by
  have H0 := Lib.hid (room_is most w)
  have hroom := roomF_lt most
  generalize roomF most = room at *
  have H1 := Lib.hid (newSlices_calls room (by omega))
  have H2 := Lib.hid known_calls
  go_enter Tryd.func7, Tryd.ntmps7
  go_wp2_with (go_at_call 14; refine H0.out.mono ?_; rintro e w0 ⟨rfl, rfl⟩)
  have hu0 : Upto [] w (w.alloc (.cells #[.int .i64 room, .slice none 0 0] 38)) := (Upto.refl _ _).alloc _
  have b0 := new_at w (.cells #[.int .i64 room, .slice none 0 0] 38)
  have q0 := cell_of b0 0
  simp at q0
  refine (H1.out _).mono ?_
  rintro e w1 ⟨l, S0, rfl, hp0, hs0, hu1⟩
  have b1 := hu1.at b0 (by simp)
  have hu01 := hu0.trans_ext hu1
  go_wp2_with fail
  refine (H2.out _).mono ?_
  rintro e w2 ⟨rfl, hu2⟩
  have hp2 := hp0.upto hu2 (by simp) (by simp)
  have b2 := hu2.at b1 (by simp)
  have hst : SIdX w room l w.heap.size [] w2 := by
    refine ⟨S0, [], [w.heap.size], hp2, ⟨none, 0, by simp [Value.ownBlock], by simp [Value.ownBlock], b2, Or.inl ⟨rfl, none, 0, rfl⟩, fun g hg => by simp at hg; subst hg; exact lt_of_heap b2⟩, ?_, by simp [Apart], ?_, Within.nil _ _, ?_, hu01.trans_ext hu2⟩
    · intro k hk hm
      simp at hm
      subst hm
      rcases hs0 _ hk with h | h
      · cases h
      · simp at h; omega
    · intro k hk
      rcases hs0 _ hk with h | h
      · cases h
      · right; simp at h; omega
    · intro k hk; simp at hk; subst hk; exact Or.inr (Nat.le_refl _)
  clear H1 H2 hp0 hs0 hu0 b0 q0 hu1 b1 hu01 hu2 hp2 b2 H0
  obtain ⟨mb, hmb⟩ : ∃ mb, mb = w.heap.size := ⟨_, rfl⟩
  rw [← hmb] at hst ⊢
  clear hmb
  go_upto_block 0 with fail
  go_cut [] (fun wx => ∃ xs : List (List Int), xs.length ≤ 30 ∧ SIdX w room l mb xs wx)
  case first =>
    go_wp2_with fail
    go_loopw [10] (fun iv' wr => SlR w room l mb ls.length iv' wr) (fun i _ => 30 - (intOf i).toNat)
    case atStart => exact ⟨0, [], by omega, by omega, by simp, rfl, hst⟩
    case round =>
      obtain ⟨i, xs, hi, hi30, hul, rfl, S, E, F, h⟩ := hrel
      by_cases hlt : i < ls.length ∧ i < 30
      · obtain ⟨hl1, hl2⟩ := hlt
        rcases hk with ⟨h0, _⟩ | ⟨g, o, c, hka, hc⟩
        · rw [h0] at hl1; simp at hl1
        simp only [Value.slice.injEq] at hka
        obtain ⟨rfl, -, rfl⟩ := hka
        have hgt := List.getElem?_eq_getElem hl1
        have hk := hc i _ hgt
        obtain ⟨ns, ea, ec, hev, hes, hel, hlc, hcm, hen⟩ := he _ (List.mem_of_getElem? hgt)
        rw [hev] at hk
        have hgw : g < w.heap.size := World.block_lt_of_cell? w _ hk
        have hk1 := (h.up.cell (p := ⟨g, o + i, none⟩) hgw (by simp)).trans hk
        clear hgt hev hc hk
        unfold maxLen at hel hcm
        obtain ⟨y, hy⟩ : ∃ y, y = ns.take 20 := ⟨_, rfl⟩
        have hyl : y.length ≤ 20 := by rw [hy]; simp; omega
        have hys : SlC w (.slice ea y.length ec) (y.map iv) := by
          rcases Nat.lt_or_ge ns.length 20 with h20 | h20
          · rw [hy, List.take_of_length_le (by omega)]; exact hes
          · rw [hy]; exact slc_take hes 20 h20
        have hyn : ∀ n ∈ y, I64 n := fun n hn => hen n (by rw [hy] at hn; exact List.mem_of_mem_take hn)
        have hyv : ns.length ≤ 20 → Value.slice ea ns.length ec = Value.slice ea y.length ec := fun h => by rw [hy, List.take_of_length_le h]
        have hyw : 20 ≤ ns.length → Value.slice ea 20 ec = Value.slice ea y.length ec := fun h => by rw [hy]; simp; omega
        have HY := Lib.hid (And.intro hyv hyw)
        clear hy hyv hyw hes hen
        go_upto_region 8 with fail
        go_cut [11] (fun v wx => v = .slice ea y.length ec ∧ SId w room l mb xs S E F wx)
        case first =>
          by_cases h20 : ns.length ≤ 20
          · go_quiet (fail)
            go_wp2_with fail
            go_meet
            exact ⟨HY.out.1 h20, h.ext ((Upto.refl [] wr).drewN nq)⟩
          · have h20' : (20 : Int) < ns.length := by omega
            go_quiet (fail)
            go_wp2_with fail
            go_meet
            exact ⟨HY.out.2 (by omega), h.ext ((Upto.refl [] wr).drewN nq)⟩
        case rest =>
          clear h hk1 HY
          obtain ⟨rfl, h⟩ := hcut
          obtain ⟨xs', n', f', hI⟩ : ∃ xs' n' f', sinternF room xs y = (xs', n', f') := ⟨_, _, _, rfl⟩
          have hul' : xs'.length ≤ xs.length + 1 := by have := sinternF_len (xs := xs) (x := y) (room := room); rw [hI] at this; exact this
          have hnum := h.pool.nums
          have hIR := internF_map (word_apart (fun z hz => (hnum.1 z hz).1) hyn) room
          rw [hI] at hIR
          obtain ⟨va, vc, hF, hn, hb, hsl, hlg⟩ := h.ref
          have hF0 := hF
          have hn0 := hn
          have hb0 := hb
          simp only [List.length_map] at hF hn hb hsl
          have HI : Hid (∀ w1, SlX w1 l room xs S E → SlC w1 (.slice ea y.length ec) (y.map iv) → (∀ a, ea = some a → y ≠ [] → a.block ∉ S) → Calls Tryd.prog 26 #[.pointer (some ⟨l, 0, none⟩), .slice ea y.length ec] w1 fun e w' => e = .returned (.tuple #[.int .i64 n', .int .i64 f']) ∧
              ∃ S' E', SlX w' l room xs' S' E' ∧ Within w1 S S' ∧ Within w1 E E' ∧ Upto S w1 w') := fun w1 hp hv hS => by
            have := sintern_calls y ea ec hp hv hyn (by omega) hS
            rw [hI] at this
            exact this
          have HS : Hid (∀ a, ea = some a → y ≠ [] → a.block ∉ S) := fun a ha hne hm => by
            have h1 := slc_lt hys (by simpa using hne) a ha
            rcases h.newS _ hm with h2 | h2
            · cases h2
            · omega
          go_upto_region 9 with fail
          go_cut [12, 13, 14] (fun t n f wx => n = .int .i64 n' ∧ f = .int .i64 f' ∧ ∃ nb va' vc', t = .pointer (some ⟨nb, 0, none⟩) ∧ RefNx wc (Value.slice va xs.length vc).ownBlock room nb (xs'.map wordB) va' vc' wx)
          case first =>
            have HW : Hid (∀ w1, Upto [] wc w1 → Calls Tryd.prog 25 #[.slice ea y.length ec] w1 fun e w' => e = .returned (.string (wordB y)) ∧ Upto [] w1 w' ∧ Upto [] wc w') :=
              fun w1 hu => (word_calls y ea ec w1 (hys.ext (h.up.trans_ext hu)) (by omega)).mono fun e w' ⟨a, b⟩ => ⟨a, b, hu.trans_ext b⟩
            have HR : Hid (∀ w1, Upto [] wc w1 → Calls Tryd.prog 16 #[.agg #[.int .i64 room, .slice va xs.length vc], .string (wordB y)] w1 fun e w' =>
              ∃ va' vc', e = .returned (.tuple #[.agg #[.int .i64 room, .slice va' xs'.length vc'], .int .i64 n', .int .i64 f']) ∧
                SlC w' (.slice va' (xs'.map wordB).length vc') ((xs'.map wordB).map .string) ∧ Upto [] w1 w' ∧ Upto [] wc w' ∧ ∀ g, (Value.slice va' (xs'.map wordB).length vc').ownBlock = some g → (Value.slice va xs.length vc).ownBlock = some g ∨ w1.heap.size ≤ g ∧ g < w'.heap.size) :=
              fun w1 hu => by
                have := rid_calls (xs.map wordB) (wordB y) room va vc w1 (by simpa using hsl.ext hu) (by simp; omega)
                simp only [List.length_map] at this
                exact this.mono fun e w' ⟨a, b, c, d, e, f⟩ => by
                  rw [hIR] at c d f
                  exact ⟨a, b, by simpa using c, by simpa using d, e, hu.trans_ext e, by simpa using f⟩
            clear hI hIR HI HS
            have q0 := cell_of hb 0
            have q1 := cell_of hb 1
            simp at q0 q1
            have hmw := lt_of_heap hb
            have hwr := Upto.refl [] wc
            have n1 : wc.heap.size ≠ mb := by omega
            have hol : ∀ g, (Value.slice va xs.length vc).ownBlock = some g → g < wc.heap.size := fun g hg => hlg g (by rw [hF]; simp [hg])
            have HW2 : Hid (∀ o : Obj, Calls Tryd.prog 25 #[.slice ea y.length ec] (wc.alloc o).drew fun e w' => e = .returned (.string (wordB y)) ∧ Upto [] wc w' ∧ wc.heap.size < w'.heap.size ∧ ∀ b, (wc.alloc o).heap[wc.heap.size]? = some b → w'.heap[wc.heap.size]? = some b) :=
              fun o => (HW.out (wc.alloc o).drew ((hwr.alloc o).drew)).mono fun e w' ⟨a, b, c⟩ => ⟨a, c, by have := b.size; simp at this; omega, fun x hx => b.at (show (wc.alloc o).drew.heap[wc.heap.size]? = _ from hx) (by simp)⟩
            clear h hF hn hlg hnum
            go_region_held3 (fun w' => w'.cell? ⟨mb, 0, none⟩ = some (.int .i64 room) ∧ w'.cell? ⟨mb, 1, none⟩ = some (.slice va xs.length vc))
              (first | go_keep | exact ⟨m0, m1⟩ | (refine ⟨?_, ?_⟩ <;> (rw [World.cell?_alloc_some _ _ _ (by simp only [m0, m1]; rfl)]; assumption)) | (simp only [World.cell?_setCell_far, n1, n2, ne_eq, not_false_eq_true]; exact ⟨m0, m1⟩))
              (first
                | (go_at_call 25; ((with_reducible refine (HW2.out _).mono ?_); rintro e w2 ⟨rfl, hw2, hz2, hx2⟩); have k2 := hx2 _ (new_at _ _); have m0 := (hw2.cell (p := ⟨mb, 0, none⟩) hmw (by simp)).trans q0; have m1 := (hw2.cell (p := ⟨mb, 1, none⟩) hmw (by simp)).trans q1; have n2 : w2.heap.size ≠ mb := by have := hw2.size; omega)
                | (go_at_call 25; refine (HW.out _ (by exact hwr.drew)).mono ?_; rintro e w2 ⟨rfl, -, hw2⟩; have hz2 := hw2.size; have m0 := (hw2.cell (p := ⟨mb, 0, none⟩) hmw (by simp)).trans q0; have m1 := (hw2.cell (p := ⟨mb, 1, none⟩) hmw (by simp)).trans q1; have n2 : w2.heap.size ≠ mb := by have := hw2.size; omega)
                | (go_at_call 16; refine (HR.out _ (by first | exact hw2 | exact hw2.alloc _)).mono ?_; rintro e w3 ⟨va', vc', rfl, hv3, hu3, hw3, hf3⟩; have m0 := (hw3.cell (p := ⟨mb, 0, none⟩) hmw (by simp)).trans q0; have m1 := (hw3.cell (p := ⟨mb, 1, none⟩) hmw (by simp)).trans q1; first | (have n0 : w3.heap[wc.heap.size]? = some _ := hu3.at k2 (by simp); have f0 := free_of n0 0; have f1 := free_of n0 1; have e0 := cell_of n0 0; have e1 := cell_of n0 1; simp at e0 e1) | (have n0 : w3.heap[w2.heap.size]? = some _ := hu3.at (new_at _ _) (by simp); have f0 := free_of n0 0; have f1 := free_of n0 1; have e0 := cell_of n0 0; have e1 := cell_of n0 1; simp at e0 e1) | skip))
            all_goals
              go_wp2_with fail
              go_meet
              refine ⟨rfl, rfl, _, va', vc', rfl, ?_⟩
              simp only [List.length_map] at hv3 hf3
              first
                | (have R := refNxB (rs' := xs'.map wordB) (room := room) n0 (Nat.le_refl _) hw3 (by simpa using hv3) (by simpa using hf3) hz2 hol; simpa using R)
                | (have R := refNxB (rs' := xs'.map wordB) (room := room) n0 hw2.size hw3 (by simpa using hv3) (by simpa using hf3) (by simp) hol; simpa using R)
                | (have R := refNxA (rs' := xs'.map wordB) (room := room) hw3 (by simpa using hv3) (by simpa using hf3) hz2; simpa using R)
          case rest =>
            obtain ⟨rfl, rfl, nb, va', vc', rfl, R⟩ := hcut
            obtain ⟨hR', hW', hU'⟩ := RefX.put hn0 hb0 (fun g hg => hlg g (by rw [hF0]; exact List.mem_cons_of_mem _ hg)) R.up R.sl (by simpa using R.fr)
            have hu5 := h.up.trans hU' (fun k hk => by simp at hk; subst hk; exact h.newF _ h.ref.mem)
            have hp5 := h.poolAfter hU'
            have hs5 := hys.ext hu5
            subst hF0
            have HB : Hid (∀ w6 S' E', SlX w6 l room xs' S' E' → Within _ S S' → Within _ E E' → Upto S _ w6 → SIdX w room l mb xs' w6) := fun w6 S' E' a b c d => ⟨S', E', _, h.both hR' hW' hU' a b c d⟩
            have hbn := R.blk
            have hb4 := R.up.at hb (by simp)
            simp only [List.length_map] at hbn hp5 hs5 HB
            have r0 := cell_of hbn 0
            have r1 := cell_of hbn 1
            have s0 := cell_of hb4 0
            have s1 := cell_of hb4 1
            have t0 := free_of hb4 0
            have t1 := free_of hb4 1
            simp at r0 r1 s0 s1
            clear h R hR' hW' hU' hu5 hnum hI hIR hn hb hsl hn0 hb0 hbn hb4 hF
            go_upto_region 12 with (go_at_call 26; refine (HI.out _ hp5 hs5 HS.out).mono ?_; rintro e w6 ⟨rfl, S', E', hp6, hs6, he6, hu6⟩; obtain ⟨S6, E6, F6, h6⟩ := HB.out _ _ _ hp6 hs6 he6 hu6; obtain ⟨va6, vc6, -, -, hb6, -, -⟩ := h6.ref; simp only [List.length_map] at hb6; have u1 := cell_of hb6 1; simp at u1)
            clear HB HI HS hp5 hs5 hp6 hs6 he6 hu6 r0 r1 s0 s1 t0 t1
            go_quiet ((go_at_call 27; exact Calls.quiet_of_same ((slen_calls (h6.pool.upto ((Upto.refl [] _).drewN _) (by simp) (by simp))).mono fun _ _ h => ⟨h.1, h.2.symm⟩)))
            have h7 := h6.ext ((Upto.refl [] w6).drewN nq)
            go_wp2_with fail
            go_roundw
            case rel => exact ⟨i + 1, xs', by omega, by omega, by omega, by go_num, _, _, _, h7⟩
            case measure => simp [intOf]; omega
      · go_wp2_with fail
        all_goals
          go_meet
          exact ⟨xs, by omega, S, E, F, h⟩
  case rest =>
    clear hst hk he hl
    obtain ⟨xs, hxl, S, E, F, h⟩ := hcut
    obtain ⟨va, vc, -, -, hb, hsl, -⟩ := h.ref
    have hnum := h.pool.nums
    simp only [List.length_map] at hb hsl
    have q0 := cell_of hb 0
    have q1 := cell_of hb 1
    simp at q0 q1
    have hmw := lt_of_heap hb
    clear hb
    go_wp2_with fail
    go_loopw [17] (fun iv' wr => ∃ n : Int, -1 ≤ n ∧ n ≤ xs.length + 1 ∧ iv' = .int .i64 n ∧ Upto [] wc wr) (fun iv' _ => (xs.length + 1 - intOf iv').toNat)
    case atStart => exact ⟨-1, by omega, by omega, rfl, Upto.refl _ _⟩
    case round =>
      obtain ⟨i, hi1, hi2, rfl, hu⟩ := hrel
      have p1 := (hu.cell (p := ⟨mb, 1, none⟩) hmw (by simp)).trans q1
      by_cases hlt : i ≤ xs.length
      · by_cases hin : 0 ≤ i ∧ i < xs.length
        · obtain ⟨n, rfl⟩ := Int.eq_ofNat_of_zero_le hin.1
          have hn : n < xs.length := by omega
          have hx : xs[n]? = some xs[n] := List.getElem?_eq_getElem hn
          have hget := sget_in (h.pool.upto hu (by simp) (by simp)) n _ hx
          have hyl := (hnum.1 _ (List.getElem_mem hn)).2
          rcases hsl with ⟨h0, _⟩ | ⟨g, o, c, hs, hc⟩
          · simp at h0; rw [h0] at hn; simp at hn
          simp only [Value.slice.injEq] at hs
          obtain ⟨rfl, -, rfl⟩ := hs
          have hc1 := hc n (.string (wordB xs[n])) (by simp [hn])
          have hgw : g < wc.heap.size := World.block_lt_of_cell? wc _ hc1
          have p2 := (hu.cell (p := ⟨g, o + n, none⟩) hgw (by simp)).trans hc1
          have HG := Lib.hid hget
          have d1 : decide (n < xs.length) = true := by simpa using hn
          have hni : (n : Int) < xs.length := by omega
          clear hget hx hc hc1 hin hlt q0 q1
          generalize xs[n] = y at *
          go_upto_region 18 with (go_at_call 28; refine HG.out.mono ?_; rintro e w2 ⟨ra, rc, rfl, hgr⟩; have hu2 : Upto [] wc w2 := hu.trans_ext (by have := hgr.up; simpa [Value.ownBlock] using this); have m1 := (hu2.cell (p := ⟨mb, 1, none⟩) hmw (by simp)).trans (by first | assumption | exact ((hu.cell (p := ⟨mb, 1, none⟩) hmw (by simp)).symm.trans p1)))
          have m2 := (hu2.cell (p := ⟨g, o + n, none⟩) hgw (by simp)).trans ((hu.cell (p := ⟨g, o + n, none⟩) hgw (by simp)).symm.trans p2)
          have hv2 := SlC.of_row hgr.row
          have HW : Hid (∀ u : Ext w2, Calls Tryd.prog 25 #[.slice ra y.length rc] u.w fun e w'' => e = .returned (.string (wordB y)) ∧ ∃ m : Ext w2, w'' = m.w) :=
            fun u => calls_ext u (word_calls y ra rc u.w (hv2.ext u.up) hyl)
          have e1 : ∀ u : Ext w2, u.w.cell? ⟨mb, 1, none⟩ = some (.slice (some ⟨g, o, none⟩) xs.length vc) := fun u => u.cell m1
          have e2 : ∀ u : Ext w2, u.w.cell? ⟨g, o + n, none⟩ = some (.string (wordB y)) := fun u => u.cell m2
          clear HG p1 p2 hgr hv2 m1 m2
          have d0 : decide ((0 : Int) ≤ n) = true := by simp
          have d2 : decide ((n : Int) < xs.length) = true := by simpa using hn
          refine wp_region_ext (by kernel_rfl) (by kernel_rfl) ?_
          repeat (go_big_quiet_step ((go_at_call 25; exact HW.out _)))
          refine wpQuiet_nil ?_
          rintro _ ⟨u3, rfl⟩
          have hu3 := u3.up
          generalize u3.w = w3 at *
          clear e1 e2
          go_wp2
          go_roundw
          case rel => exact ⟨n + 1, by omega, by omega, rfl, hu2.trans_ext hu3⟩
          case measure => simp [intOf]; omega
        · have hout := sget_out (h.pool.upto hu (by simp) (by simp)) i (by omega)
          have HG := Lib.hid hout
          clear hout
          by_cases hneg : i < 0
          · have d0 : decide ((0 : Int) ≤ i) = false := by simpa using hneg
            clear hin
            go_upto_region 18 with (go_at_call 28; refine HG.out.mono ?_; rintro e w2 ⟨rfl, rfl⟩)
            go_quiet (fail)
            go_wp2
            go_roundw
            case rel => exact ⟨i + 1, by omega, by omega, rfl, hu.drewN _⟩
            case measure => simp [intOf]; omega
          · have h0 : 0 ≤ i := by omega
            have h1 : (xs.length : Int) ≤ i := by omega
            have d0 : decide ((0 : Int) ≤ i) = true := by simpa using h0
            have d1 : decide (i < (xs.length : Int)) = false := by simpa using h1
            clear hin hneg
            go_upto_region 18 with (go_at_call 28; refine HG.out.mono ?_; rintro e w2 ⟨rfl, rfl⟩)
            go_quiet (fail)
            go_wp2
            go_roundw
            case rel => exact ⟨i + 1, by omega, by omega, rfl, hu.drewN _⟩
            case measure => simp [intOf]; omega
      · obtain ⟨oa', oc', hov, hos, hol, hoc, hoc', hon⟩ := ho
        simp only [Value.slice.injEq] at hov
        obtain ⟨rfl, -, rfl⟩ := hov
        obtain ⟨y, hy⟩ : ∃ y, y = other.take 20 := ⟨_, rfl⟩
        have hyl : y.length ≤ 20 := by rw [hy]; simp; omega
        have hys : SlC w (.slice oa y.length oc) (y.map iv) := by
          rcases Nat.lt_or_ge other.length 20 with h20 | h20
          · rw [hy, List.take_of_length_le (by omega)]; exact hos
          · rw [hy]; exact slc_take hos 20 h20
        have hyn : ∀ n ∈ y, I64 n := fun n hn => hon n (by rw [hy] at hn; exact List.mem_of_mem_take hn)
        have hyv : other.length ≤ 20 → Value.slice oa other.length oc = Value.slice oa y.length oc := fun h => by rw [hy, List.take_of_length_le h]
        have hyw : 20 ≤ other.length → Value.slice oa 20 oc = Value.slice oa y.length oc := fun h => by rw [hy]; simp; omega
        have HY := Lib.hid (And.intro hyv hyw)
        clear hy hyv hyw hos hon
        unfold maxLen at hol hoc'
        have hP := h.pool.upto hu (by simp) (by simp)
        have hup := h.up.trans_ext hu
        have hfd := sfind_calls y oa oc hP (hys.ext hup) hyn (by omega)
        have hap := word_apart (fun z hz => (hnum.1 z hz).1) hyn
        have hrf := refFind_map hap
        have p0 := (hu.cell (p := ⟨mb, 0, none⟩) hmw (by simp)).trans q0
        have hsr := hsl.ext hu
        have HW0 : Hid (∀ u : Ext wr, Calls Tryd.prog 25 #[.slice oa y.length oc] u.w fun e w'' => e = .returned (.string (wordB y)) ∧ Upto [] u.w w'') :=
          fun u => word_calls y oa oc u.w (hys.ext (hup.trans_ext u.up)) (by omega)
        have HR0 : Hid (∀ u : Ext wr, Calls Tryd.prog 21 #[.agg #[.int .i64 room, .slice va xs.length vc], .string (wordB y)] u.w fun e w'' => e = .returned (.int .i64 (refFind (xs.map wordB) (wordB y))) ∧ Upto [] u.w w'') :=
          fun u => by
            have := rfind_calls (xs.map wordB) (wordB y) room _ u.w (hsr.ext u.up) (by simp; omega)
            simpa using this
        clear h hnum hsl q0 q1 hys hap hsr hP hu
        cases hix : idxL xs y with
        | some j =>
          simp only [sfindF, hix] at hfd
          simp only [hix] at hrf
          rw [hrf] at HR0
          have HD := Lib.hid hfd
          clear hfd hrf hix
          go_wp2_with fail
          case' inl => rw [HY.out.2 (by omega)]
          case' inr => rw [HY.out.1 (by omega)]
          all_goals
            refine HD.out.mono ?_
            rintro e w2 ⟨rfl, hu2⟩
            have g0 := (hu2.cell (p := ⟨mb, 0, none⟩) (World.block_lt_of_cell? wr _ p0) (by simp)).trans p0
            have g1 := (hu2.cell (p := ⟨mb, 1, none⟩) (World.block_lt_of_cell? wr _ p1) (by simp)).trans p1
            have e0 : ∀ u : Ext w2, u.w.cell? ⟨mb, 0, none⟩ = some (.int .i64 room) := fun u => u.cell g0
            have e1 : ∀ u : Ext w2, u.w.cell? ⟨mb, 1, none⟩ = some (.slice va xs.length vc) := fun u => u.cell g1
            have HW : Hid (∀ u : Ext w2, Calls Tryd.prog 25 #[.slice oa y.length oc] u.w fun e w'' => e = .returned (.string (wordB y)) ∧ ∃ m : Ext w2, w'' = m.w) := fun u => calls_ext u (HW0.out (.mk (hu2.trans_ext u.up)))
            have HR : Hid (∀ u : Ext w2, Calls Tryd.prog 21 #[.agg #[.int .i64 room, .slice va xs.length vc], .string (wordB y)] u.w fun e w'' => e = .returned (.int .i64 j) ∧ ∃ m : Ext w2, w'' = m.w) := fun u => calls_ext u (HR0.out (.mk (hu2.trans_ext u.up)))
            clear p0 p1 g0 g1
            go_upto_region 22 with fail
            refine wp_region_ext (by kernel_rfl) (by kernel_rfl) ?_
            repeat (go_big_quiet_step ((first | (go_at_call 25; exact HW.out _) | (go_at_call 21; exact HR.out _))))
            refine wpQuiet_nil ?_
            rintro _ ⟨u3, rfl⟩
            have hu3 := u3.up
            generalize u3.w = w3 at *
            clear e0 e1
            go_wp2
            all_goals
              go_ret
              exact ⟨rfl, hup.trans_ext (hu2.trans_ext hu3)⟩
        | none =>
          simp only [sfindF, hix] at hfd
          simp only [hix] at hrf
          rw [hrf] at HR0
          have HD := Lib.hid hfd
          clear hfd hrf hix
          go_wp2_with fail
          case' inl => rw [HY.out.2 (by omega)]
          case' inr => rw [HY.out.1 (by omega)]
          all_goals
            refine HD.out.mono ?_
            rintro e w2 ⟨rfl, hu2⟩
            have g0 := (hu2.cell (p := ⟨mb, 0, none⟩) (World.block_lt_of_cell? wr _ p0) (by simp)).trans p0
            have g1 := (hu2.cell (p := ⟨mb, 1, none⟩) (World.block_lt_of_cell? wr _ p1) (by simp)).trans p1
            have e0 : ∀ u : Ext w2, u.w.cell? ⟨mb, 0, none⟩ = some (.int .i64 room) := fun u => u.cell g0
            have e1 : ∀ u : Ext w2, u.w.cell? ⟨mb, 1, none⟩ = some (.slice va xs.length vc) := fun u => u.cell g1
            have HW : Hid (∀ u : Ext w2, Calls Tryd.prog 25 #[.slice oa y.length oc] u.w fun e w'' => e = .returned (.string (wordB y)) ∧ ∃ m : Ext w2, w'' = m.w) := fun u => calls_ext u (HW0.out (.mk (hu2.trans_ext u.up)))
            have HR : Hid (∀ u : Ext w2, Calls Tryd.prog 21 #[.agg #[.int .i64 room, .slice va xs.length vc], .string (wordB y)] u.w fun e w'' => e = .returned (.int .i64 (-1)) ∧ ∃ m : Ext w2, w'' = m.w) := fun u => calls_ext u (HR0.out (.mk (hu2.trans_ext u.up)))
            clear p0 p1 g0 g1
            go_upto_region 22 with fail
            refine wp_region_ext (by kernel_rfl) (by kernel_rfl) ?_
            repeat (go_big_quiet_step ((first | (go_at_call 25; exact HW.out _) | (go_at_call 21; exact HR.out _))))
            refine wpQuiet_nil ?_
            rintro _ ⟨u3, rfl⟩
            have hu3 := u3.up
            generalize u3.w = w3 at *
            clear e0 e1
            go_wp2
            all_goals
              go_ret
              exact ⟨rfl, hup.trans_ext (hu2.trans_ext hu3)⟩
end Go.Proofs.YtffnkjlobflhcaaDoor
