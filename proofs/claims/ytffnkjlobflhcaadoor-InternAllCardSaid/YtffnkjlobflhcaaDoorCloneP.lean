/- The pool's Clone. -/
import Derived.Test.YtffnkjlobflhcaaDoorEqS
import Derived.Deep.RegionHeld3
namespace Go.Proofs.YtffnkjlobflhcaaDoor
open Go.RowKit Go.PL Go.Maps

set_option maxRecDepth 100000 in
set_option maxHeartbeats 400000 in
theorem cloneS (va : Option Addr) (vc : Nat) (xs : List Value) (w : World) (hv : SlC w (.slice va xs.length vc) xs) (h1 : ∀ u ∈ xs, u.oneCell' = true) (hl : xs.length ≤ 1048576) :
    Calls Tryd.prog 39 #[.slice va xs.length vc] w fun e w' => ∃ ra rc, e = .returned (.slice ra xs.length rc) ∧ Grew w w' 9 1 (.slice none 0 0) (.slice ra xs.length rc) xs.length xs := by
  cases va with
  | none =>
    have h0 : xs = [] := by
      rcases hv with ⟨h, _⟩ | ⟨g, o, c, hs, _⟩
      · exact h
      · cases hs
    subst h0
    have he : (binOp .eql 35 (.slice none 0 vc) (.slice none 0 0)).run Tryd.prog w = .ok (.bool true) w := Lib.run_eql_slice_nil w 35 9 none 0 vc 0 0 Tryd.underlying35
    go_enter Tryd.func39, Tryd.ntmps39
    go_wp2
    go_ret
    exact ⟨none, 0, rfl, Grew.same (World.ownsRow_nil _ _ _ _)⟩
  | some a =>
    obtain ⟨i0, hi0, hz0, hz1, hz2⟩ := info_parts infoS
    have hv1 := hv.ext ((Upto.refl [] w).alloc (.cells #[] 9))
    have ho0 : (w.alloc (.cells #[] 9)).ownsRow 0 9 1 (.slice (some ⟨w.heap.size, 0, none⟩) 0 0) 0 [] := World.ownsRow_made w #[] 0 (Nat.zero_le _) (by decide) rfl
    have H1 := Lib.hid h1
    have he : (binOp .eql 35 (.slice (some a) xs.length vc) (.slice none 0 0)).run Tryd.prog w = .ok (.bool false) w := Lib.run_eql_slice_nil w 35 9 (some a) _ vc 0 0 Tryd.underlying35
    clear h1
    go_enter Tryd.func39, Tryd.ntmps39
    go_wp2_with (at_builtin; refine wpList_apps _ rfl (.tmp 5) (.tmp 6) 35 rfl 9 i0 (.string ⟨#[]⟩) 16 Tryd.underlying35 hi0 hz0 hz1 hz2 rfl (.slice (some ⟨w.heap.size, 0, none⟩) 0 0) 0 [] rfl ho0 _ _ rfl hv1 H1.out (by unfold maxLen; omega) (by omega) ?_; intro b2 n2 w2 ho2 hg2 hw2)
    simp only [Nat.zero_add, List.nil_append] at ho2 hw2
    go_ret
    refine ⟨b2, n2, by simp, ho2, ?_, ?_⟩
    · have := ((Upto.refl [] w).alloc (.cells #[] 9)).trans hg2 (fun g hg => by simp [Value.ownBlock] at hg; right; omega)
      exact this
    · intro g hg
      rcases hw2 g hg with h | h
      · simp [Value.ownBlock] at h; right; omega
      · simp at h; right; omega

/-- while the clone is filled: i keys are in the map -/
structure ClAt (w : World) (pb mb room : Nat) (ks : List ByteArray) (ra : Option Addr) (rc i : Nat) (wr : World) : Prop where
  blk : wr.heap[pb]? = some (.cells #[.int .i64 room, .map (some mb), .slice ra ks.length rc] 80 (0, 0))
  map : MapL Tryd.prog 9 wr mb (ents (ks.take i))
  row : wr.ownsRow 0 9 1 (.slice ra ks.length rc) ks.length (ks.map .string)
  pN : w.heap.size ≤ pb
  mN : w.heap.size ≤ mb
  rN : ∀ g, (Value.slice ra ks.length rc).ownBlock = some g → w.heap.size ≤ g
  up : Upto [] w wr

theorem clAt_begin {w w3 : World} {mb room : Nat} {ks : List ByteArray} {ra : Option Addr} {rc : Nat} (hm : MapL Tryd.prog 9 w3 mb []) (hmN : w.heap.size ≤ mb) (hrow : w3.ownsRow 0 9 1 (.slice ra ks.length rc) ks.length (ks.map .string))
    (hrN : ∀ g, (Value.slice ra ks.length rc).ownBlock = some g → w.heap.size ≤ g) (hup : Upto [] w w3) :
    ClAt w w3.heap.size mb room ks ra rc 0 (w3.alloc (.cells #[.int .i64 room, .map (some mb), .slice ra ks.length rc] 80)) :=
  ⟨new_at _ _, by simpa [ents] using hm.upto ((Upto.refl [] w3).alloc _) (by simp), hrow.alloc _, hup.size, hmN, hrN, hup.alloc _⟩

theorem clAt_next {w wr w1 : World} {pb mb room i : Nat} {ks : List ByteArray} {ra : Option Addr} {rc : Nat} {k : ByteArray} (h : ClAt w pb mb room ks ra rc i wr) (hk : ks[i]? = some k)
    (hm1 : MapL Tryd.prog 9 w1 mb (ents (ks.take i) ++ [(.string k, .int .i64 i)])) (hg1 : wr.grownBy w1 (some mb)) : ClAt w pb mb room ks ra rc (i + 1) w1 := by
  have hne : pb ≠ mb := by
    rintro rfl
    obtain ⟨es, c, h1, _⟩ := h.map
    rw [h.blk] at h1
    cases h1
  have hi : i < ks.length := (List.getElem?_eq_some_iff.1 hk).1
  refine ⟨(hg1.block pb (lt_of_heap h.blk) (by simpa using hne)).trans h.blk, ?_, h.row.kept hg1 (Or.inr (fun he => ?_)), h.pN, h.mN, h.rN, h.up.grown hg1 (by intro k hk; cases hk; right; exact h.mN)⟩
  · rw [List.take_add_one, hk]
    have := ents_app (ks.take i) k
    rw [List.length_take, Nat.min_eq_left (by omega)] at this
    simp only [Option.toList]
    rw [this]
    exact hm1
  · obtain ⟨cur, hh⟩ := ownsRow_block h.row he
    obtain ⟨es, c, h1, _⟩ := h.map
    rw [hh] at h1
    cases h1

theorem clAt_done {w wr : World} {pb mb room : Nat} {ks : List ByteArray} {ra : Option Addr} {rc : Nat} (h : ClAt w pb mb room ks ra rc ks.length wr) (hn : ks.Nodup) (hl : ks.length ≤ room) (hr : room ≤ 1048576) (hs : ∀ k ∈ ks, k.size ≤ maxLen) :
    ∃ S', PoolX wr pb room ks S' ∧ Within w [] S' :=
  ⟨pb :: mb :: (Value.slice ra ks.length rc).ownBlock.toList, ⟨mb, _, h.blk, by simpa using h.map, h.row, rfl, hn, hl, hr, hs⟩, fun k hk => by
    right
    simp only [List.mem_cons, Option.mem_toList] at hk
    rcases hk with rfl | rfl | hk
    · exact h.pN
    · exact h.mN
    · exact h.rN k hk⟩

set_option maxRecDepth 100000 in
set_option maxHeartbeats 1600000 in
theorem pclone_calls (p room : Nat) (ks : List ByteArray) (S : List Nat) (w : World) (hp : PoolX w p room ks S) :
    Calls Tryd.prog 30 #[.pointer (some ⟨p, 0, none⟩)] w fun e w' => ∃ p' S', e = .returned (.pointer (some ⟨p', 0, none⟩)) ∧ PoolX w' p' room ks S' ∧ Within w [] S' ∧ Upto [] w w' ∧ w.heap.size ≤ p' := by
  have hln := hp.info.2.1
  obtain ⟨mb, sv, hp⟩ := hp
  obtain ⟨sa, sc, hsv, _⟩ := ownsRow_len hp.row
  have c0 := cell_of hp.blk 0
  have c2 := cell_of hp.blk 2
  simp at c0 c2
  have hx := SlC.of_row hp.row
  rw [hsv] at c2 hx
  have hpw := lt_of_heap hp.blk
  have hmm := @run_makeMap Tryd.prog
  have hwr := Upto.refl [] w
  have HC : Hid (∀ w1, Upto [] w w1 → Calls Tryd.prog 39 #[.slice sa ks.length sc] w1 fun e w' => ∃ ra rc, e = .returned (.slice ra ks.length rc) ∧ Grew w1 w' 9 1 (.slice none 0 0) (.slice ra ks.length rc) ks.length (ks.map .string) ∧ Upto [] w w') := fun w1 hu => by
    have := cloneS sa sc (ks.map .string) w1 (by simpa using hx.ext hu) (by simp [Value.oneCell']) (by simpa using hln)
    simp only [List.length_map] at this
    exact this.mono fun e w' ⟨ra, rc, he, hg⟩ => ⟨ra, rc, he, hg, hu.trans_ext (by have := hg.up; simpa [Value.ownBlock] using this)⟩
  go_enter Tryd.func30, Tryd.ntmps30
  go_wp2_with fail
  go_region_held3 (fun w' => w'.cell? ⟨p, 0, none⟩ = some (.int .i64 room) ∧ w'.cell? ⟨p, 2, none⟩ = some (.slice sa ks.length sc))
    (first | go_keep | exact ⟨m0, m1⟩)
    ((go_at_call 39; refine (HC.out _ (by first | exact hwr.drew | exact (hwr.drew).alloc _)).mono ?_; rintro e w3 ⟨ra, rc, rfl, hg3, hw3⟩; have m0 := (hw3.cell (p := ⟨p, 0, none⟩) hpw (by simp)).trans c0; have m1 := (hw3.cell (p := ⟨p, 2, none⟩) hpw (by simp)).trans c2))
  have hup3 : Upto [] (w.drew.alloc (.map #[] 0)) w3 := hg3.up
  have hcl := clAt_begin (w := w) (room := room) ((MapL.made Tryd.prog 9 w.drew).upto hup3 (by simp)) (Nat.le_refl _) hg3.row (fun g hg => by
    rcases hg3.own g hg with h1 | h1
    · simp [Value.ownBlock] at h1
    · simp at h1; omega) hw3
  change ClAt w w3.heap.size w.heap.size room ks ra rc 0 (w3.alloc (.cells #[.int .i64 room, .map (some w.heap.size), .slice ra ks.length rc] 80)) at hcl
  generalize w3.alloc (.cells #[.int .i64 room, .map (some w.heap.size), .slice ra ks.length rc] 80) = w4 at *
  generalize w3.heap.size = pb at *
  generalize hmb : w.heap.size = mb2 at hcl ⊢
  rotate_left 1
  have hcl := clAt_begin (w := w) (room := room) (MapL.made Tryd.prog 9 w3) hw3.size (hg3.row.alloc (.map #[] 0)) (fun g hg => by
    rcases hg3.own g hg with h1 | h1
    · simp [Value.ownBlock] at h1
    · simpa using h1) (hw3.alloc (.map #[] 0))
  rw [World.size_alloc] at hcl
  generalize (w3.alloc (.map #[] 0)).alloc (.cells #[.int .i64 room, .map (some w3.heap.size), .slice ra ks.length rc] 80) = w4 at *
  generalize w3.heap.size + 1 = pb at *
  generalize hmb : w3.heap.size = mb2 at hcl ⊢
  all_goals
    clear hg3 hw3 m0 m1 HC hmm c0 c2 hx
    have hnd := hp.nodup
    have hsz := hp.sizes
    have hle := hp.le
    have hrm := hp.room
    have d2 := cell_of hcl.blk 2
    simp at d2
    go_wp2_with fail
    go_loopw [25] (fun iv' wr => ∃ i : Nat, i ≤ ks.length ∧ iv' = .int .i64 i ∧ ClAt w pb mb2 room ks ra rc i wr) (fun iv' _ => ks.length - (intOf iv').toNat)
    case atStart => exact ⟨0, by omega, rfl, hcl⟩
    case round =>
      obtain ⟨i, hi, rfl, h⟩ := hrel
      by_cases hlt : i < ks.length
      · have hk : ks[i]? = some ks[i] := List.getElem?_eq_getElem hlt
        rcases SlC.of_row h.row with ⟨h0, _⟩ | ⟨g, o, c, hs, hc⟩
        · simp at h0; rw [h0] at hlt; simp at hlt
        simp only [Value.slice.injEq] at hs
        obtain ⟨rfl, -, rfl⟩ := hs
        have e0 := hc i (.string ks[i]) (by simp [hlt])
        have e1 := cell_of h.blk 1
        simp at e1
        have hks := hsz _ (List.getElem_mem hlt)
        have hni : ks[i] ∉ ks.take i := by
          intro hm
          obtain ⟨j, hj, he⟩ := List.getElem_of_mem hm
          simp at hj he
          have := (List.getElem?_inj (i := j) (j := i) (by omega) hnd).1 (by rw [List.getElem?_eq_getElem (by omega), List.getElem?_eq_getElem hlt, he])
          omega
        have HK := Lib.hid hk
        generalize ks[i] = k at *
        clear hk hc d2 hcl
        go_wp2_with (refine wpList_insert _ rfl _ _ _ 78 rfl 9 3 lawS Tryd.underlying78 mb2 (ents (ks.take i)) rfl h.map (.string k) (.int .i64 i) _ rfl rfl (keyS Tryd.underlying9 hks) (ents_new hni) ?_; intro w1 hm1 hg1; have h1 := clAt_next h HK.out hm1 hg1)
        go_roundw
        case rel => exact ⟨i + 1, by omega, by go_num, h1⟩
        case measure => simp [intOf]; omega
      · obtain rfl : i = ks.length := by omega
        obtain ⟨S', hP, hW⟩ := clAt_done h hnd hle hrm hsz
        have hup := h.up
        have hpn := h.pN
        go_wp2
        go_ret
        exact ⟨pb, S', rfl, hP, hW, hup, hpn⟩
end Go.Proofs.YtffnkjlobflhcaaDoor
