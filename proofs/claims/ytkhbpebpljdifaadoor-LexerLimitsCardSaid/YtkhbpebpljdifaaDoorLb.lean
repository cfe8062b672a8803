/- To and alike. -/
import Derived.Test.YtkhbpebpljdifaaDoorTok
import Derived.Test.YtkhbpebpljdifaaDoorTokR
import Derived.Test.YtkhbpebpljdifaaDoorSeg
import Derived.Deep.RegionHeld3
namespace Go.Proofs.YtkhbpebpljdifaaDoor
open Go.RowKit Go.PL Go.Maps

set_option maxRecDepth 100000 in
set_option maxHeartbeats 6400000 in
/-- To: the same tokens -/
theorem to_calls (ts : List Tok) (v : Value) (w : World) (hT : Toks w v ts) (hb : ts.length ≤ 1000000) : Calls Tryd.prog 17 #[v] w fun e w' => ∃ v', e = .returned v' ∧ Toks w' v' ts ∧ Upto [] w w' := by
  obtain ⟨i0, hi0, hz0, hz1, hz2⟩ := info_parts info80
  have HI := Lib.hid hi0
  have HZ0 := Lib.hid hz0
  have HZ1 := Lib.hid hz1
  have HZ2 := Lib.hid hz2
  clear hi0 hz0 hz1 hz2
  obtain ⟨pa, pc, rfl⟩ := hT.len
  have HAT := Lib.hid hT.at
  clear hT
  have hM : TkR w [] (.slice none 0 0) w := ⟨⟨rfl, Or.inl ⟨rfl, rfl⟩⟩, fun g hg => (by cases hg), Upto.refl _ _⟩
  go_enter Tryd.func17, Tryd.ntmps17
  go_wp2_with fail
  go_loopw [3, 4] (fun l i wr => ∃ k : Nat, k ≤ ts.length ∧ i = .int .i64 k ∧ TkR w (ts.take k) l wr) (fun _ i _ => ts.length - (intOf i).toNat)
  case atStart => exact ⟨0, by omega, rfl, by simpa using hM⟩
  case round =>
    obtain ⟨k, hk, rfl, hM'⟩ := hrel
    clear hM
    obtain ⟨va, vc, rfl, -⟩ := ownsRow_len hM'.row
    have HA := Lib.hid hM'
    rcases Nat.lt_or_ge k ts.length with hlt | hge
    · obtain ⟨t, ht⟩ : ∃ t, ts[k]? = some t := ⟨ts[k], List.getElem?_eq_getElem hlt⟩
      have htl : (ts.take k).length = k := by rw [List.length_take]; omega
      have HT : Hid (ts.take (k + 1) = ts.take k ++ [t]) := Lib.hid (by
        obtain ⟨h1, h2⟩ := List.getElem?_eq_some_iff.1 ht
        rw [List.take_succ_eq_append_getElem h1, h2])
      rcases HAT.out with ⟨h0, _⟩ | ⟨g, o, c, hs, hat⟩
      · rw [h0] at hlt; simp at hlt
      · simp only [Value.slice.injEq] at hs
        obtain ⟨rfl, -, rfl⟩ := hs
        obtain ⟨c0, c1, c2, c3, c4⟩ := hat.ext hM'.up _ _ ht
        have hMk : TkR w (ts.take k) (.slice va k vc) wr := by have h2 := hM'; rwa [htl] at h2
        rw [htl]
        have HA := Lib.hid hMk
        have HL := Lib.hid htl
        clear hMk
        clear hM' ht hat htl
        have hlt2 : (k : Int) < ts.length := by omega
        have hk0 : (0 : Int) ≤ k := by omega
        go_wp2_with fail
        have e0 : ∀ u : Ext wr, u.w.cell? ⟨g, o + k * 5, none⟩ = some (.int .i64 t.kind) := fun u => u.cell c0
        have e1 : ∀ u : Ext wr, u.w.cell? ⟨g, o + k * 5 + 1, none⟩ = some (.string ⟨t.text.toArray⟩) := fun u => u.cell c1
        have e2 : ∀ u : Ext wr, u.w.cell? ⟨g, o + k * 5 + 2, none⟩ = some (.int .i64 t.val) := fun u => u.cell c2
        have e3 : ∀ u : Ext wr, u.w.cell? ⟨g, o + k * 5 + 3, none⟩ = some (.int .i64 t.line) := fun u => u.cell c3
        have e4 : ∀ u : Ext wr, u.w.cell? ⟨g, o + k * 5 + 3 + 1, none⟩ = some (.int .i64 t.col) := fun u => u.cell c4
        have e5 : ∀ u : Ext wr, u.w.cell? ⟨g, o + k * 5 + 4, none⟩ = some (.int .i64 t.col) := fun u => u.cell c4
        clear c0 c1 c2 c3 c4
        refine wp_region_noPanic ?_
        refine wp_region_segP_at [] [] [0] [1, 2, 3, 4, 5, 6, 7, 8, 9, 10, 11, 12, 13, 14, 15, 16, 17, 18, 19, 20, 21, 22, 23, 24, 25, 26, 27, 28] [29, 30, 31] 29 (fun _ _ _ _ _ h => h) (by kernel_rfl) (by kernel_rfl) (by kernel_rfl) ?_
        refine pre_plain rfl rfl rfl ?_
        intro K' hK'
        go_big_quiet_op
        go_big_quiet_on
        refine seg_plain rfl rfl rfl rfl rfl ?_
        intro K' hK'
        go_big_quiet_op
        go_big_quiet_on
        refine seg_plain rfl rfl rfl rfl rfl ?_
        intro K' hK'
        go_big_quiet_op
        go_big_quiet_on
        refine seg_plain rfl rfl rfl rfl rfl ?_
        intro K' hK'
        go_big_quiet_op
        go_big_quiet_on
        refine seg_plain rfl rfl rfl rfl rfl ?_
        intro K' hK'
        go_big_quiet_op
        go_big_quiet_on
        refine seg_plain rfl rfl rfl rfl rfl ?_
        intro K' hK'
        go_big_quiet_op
        go_big_quiet_on
        refine seg_plain rfl rfl rfl rfl rfl ?_
        intro K' hK'
        go_big_quiet_op
        go_big_quiet_on
        refine seg_plain rfl rfl rfl rfl rfl ?_
        intro K' hK'
        go_big_quiet_op
        go_big_quiet_on
        refine seg_plain rfl rfl rfl rfl rfl ?_
        intro K' hK'
        go_big_quiet_op
        go_big_quiet_on
        refine seg_plain rfl rfl rfl rfl rfl ?_
        intro K' hK'
        go_big_quiet_op
        go_big_quiet_on
        refine seg_plain rfl rfl rfl rfl rfl ?_
        intro K' hK'
        go_big_quiet_op
        go_big_quiet_on
        refine seg_plain rfl rfl rfl rfl rfl ?_
        intro K' hK'
        go_big_quiet_op
        go_big_quiet_on
        refine seg_plain rfl rfl rfl rfl rfl ?_
        intro K' hK'
        go_big_quiet_op
        go_big_quiet_on
        refine seg_plain rfl rfl rfl rfl rfl ?_
        intro K' hK'
        go_big_quiet_op
        go_big_quiet_on
        refine seg_plain rfl rfl rfl rfl rfl ?_
        intro K' hK'
        go_big_quiet_op
        go_big_quiet_on
        refine seg_plain rfl rfl rfl rfl rfl ?_
        intro K' hK'
        go_big_quiet_op
        go_big_quiet_on
        refine seg_plain rfl rfl rfl rfl rfl ?_
        intro K' hK'
        go_big_quiet_op
        go_big_quiet_on
        refine seg_plain rfl rfl rfl rfl rfl ?_
        intro K' hK'
        go_big_quiet_op
        go_big_quiet_on
        refine seg_plain rfl rfl rfl rfl rfl ?_
        intro K' hK'
        go_big_quiet_op
        go_big_quiet_on
        refine seg_plain rfl rfl rfl rfl rfl ?_
        intro K' hK'
        go_big_quiet_op
        go_big_quiet_on
        refine seg_plain rfl rfl rfl rfl rfl ?_
        intro K' hK'
        go_big_quiet_op
        go_big_quiet_on
        refine seg_plain rfl rfl rfl rfl rfl ?_
        intro K' hK'
        go_big_quiet_op
        go_big_quiet_on
        refine seg_plain rfl rfl rfl rfl rfl ?_
        intro K' hK'
        go_big_quiet_op
        go_big_quiet_on
        refine seg_plain rfl rfl rfl rfl rfl ?_
        intro K' hK'
        go_big_quiet_op
        go_big_quiet_on
        refine seg_plain rfl rfl rfl rfl rfl ?_
        intro K' hK'
        go_big_quiet_op
        go_big_quiet_on
        refine seg_plain rfl rfl rfl rfl rfl ?_
        intro K' hK'
        go_big_quiet_op
        go_big_quiet_on
        refine seg_plain rfl rfl rfl rfl rfl ?_
        intro K' hK'
        go_big_quiet_op
        go_big_quiet_on
        refine seg_plain rfl rfl rfl rfl rfl ?_
        intro K' hK'
        go_big_quiet_op
        go_big_quiet_on
        refine seg_plain rfl rfl rfl rfl rfl ?_
        intro K' hK'
        go_big_quiet_op
        go_big_quiet_on
        intro w9 hg
        have hv := hg.up
        clear hg e0 e1 e2 e3 e4 e5
        simp only [List.drop_succ_cons, List.drop_zero]
        have HM9 := Lib.hid (HA.out.ext hv)
        have hrow := (HM9.out.ext ((Upto.refl [] w9).alloc (.cells #[.int .i64 t.kind, .string ⟨t.text.toArray⟩, .int .i64 t.val, .int .i64 t.line, .int .i64 t.col] 80))).row
        have hsrc := cells_at (l := tkC t) (new_at w9 (.cells #[.int .i64 t.kind, .string ⟨t.text.toArray⟩, .int .i64 t.val, .int .i64 t.line, .int .i64 t.col] 80))
        rw [HL.out] at hrow
        clear hv
        go_wp2_with (at_builtin; refine wpList_app _ rfl (.tmp 11) (.tmp 40) 28 rfl 80 i0 (.agg #[.int .i64 0, .string ⟨#[]⟩, .int .i64 0, .int .i64 0, .int .i64 0]) 5 48 Tryd.underlying28 HI.out HZ0.out HZ1.out HZ2.out rfl (by decide) (.slice va k vc) k _ rfl hrow ⟨w9.heap.size, 0, none⟩ 1 1 (tkC t) rfl rfl hsrc tkC_one (by unfold maxLen; omega) (by omega) ?_; intro vb vd w4 ho4 hu4 hw4; have HM4 := Lib.hid (HM9.out.app' (t := t) HL.out ho4 hu4 hw4); clear hrow hsrc ho4 hu4 hw4)
        refine NoPanic.normal ?_
        go_wp2_with fail
        go_roundw
        case rel => exact ⟨k + 1, by omega, by go_num, by rw [HT.out]; exact HM4.out⟩
        case measure => simp [intOf]; omega
    · have hge' : ¬ (k : Int) < ts.length := by omega
      have htk : ts.take k = ts := List.take_of_length_le hge
      rw [htk] at HA ⊢
      clear hM'
      go_wp2_with fail
      go_ret
      exact ⟨_, rfl, Toks.of_row HA.out.row, HA.out.up⟩

set_option maxRecDepth 100000 in
set_option maxHeartbeats 6400000 in
/-- alike: of the same tokens -/
theorem alike_calls (ts : List Tok) (va vb : Value) (w : World) (ha : Toks w va ts) (hb : Toks w vb ts) (hl : ts.length ≤ 1000000) : Calls Tryd.prog 16 #[va, vb] w fun e w' => e = .returned (.bool true) ∧ Upto [] w w' := by
  obtain ⟨pa, ca, rfl⟩ := ha.len
  obtain ⟨pb, cb, rfl⟩ := hb.len
  have HA := Lib.hid ha.at
  have HB := Lib.hid hb.at
  clear ha hb
  go_enter Tryd.func16, Tryd.ntmps16
  go_wp2_with fail
  go_loopw [5] (fun i wr => ∃ k : Nat, k ≤ ts.length ∧ i = .int .i64 k ∧ Upto [] w wr) (fun i _ => ts.length - (intOf i).toNat)
  case atStart => exact ⟨0, by omega, rfl, Upto.refl _ _⟩
  case round =>
    obtain ⟨k, hk, rfl, hup⟩ := hrel
    rcases Nat.lt_or_ge k ts.length with hlt | hge
    · obtain ⟨t, ht⟩ : ∃ t, ts[k]? = some t := ⟨ts[k], List.getElem?_eq_getElem hlt⟩
      rcases HA.out with ⟨h0, _⟩ | ⟨g, o, c, hs, hat⟩
      · rw [h0] at hlt; simp at hlt
      · rcases HB.out with ⟨h0, _⟩ | ⟨g2, o2, c2', hs2, hbt⟩
        · rw [h0] at hlt; simp at hlt
        · simp only [Value.slice.injEq] at hs hs2
          obtain ⟨rfl, -, rfl⟩ := hs
          obtain ⟨rfl, -, rfl⟩ := hs2
          obtain ⟨c0, c1, c2, c3, c4⟩ := hat.ext hup _ _ ht
          obtain ⟨d0, d1, d2, d3, d4⟩ := hbt.ext hup _ _ ht
          clear ht hat hbt
          have hlt2 : (k : Int) < ts.length := by omega
          have hk0 : (0 : Int) ≤ k := by omega
          go_wp2_with fail
          have HU := Lib.hid hup
          clear hup
          have e0 : ∀ u : Ext wr, u.w.cell? ⟨g, o + k * 5, none⟩ = some (.int .i64 t.kind) := fun u => u.cell c0
          have e1 : ∀ u : Ext wr, u.w.cell? ⟨g, o + k * 5 + 1, none⟩ = some (.string ⟨t.text.toArray⟩) := fun u => u.cell c1
          have e2 : ∀ u : Ext wr, u.w.cell? ⟨g, o + k * 5 + 2, none⟩ = some (.int .i64 t.val) := fun u => u.cell c2
          have e3 : ∀ u : Ext wr, u.w.cell? ⟨g, o + k * 5 + 3, none⟩ = some (.int .i64 t.line) := fun u => u.cell c3
          have e4 : ∀ u : Ext wr, u.w.cell? ⟨g, o + k * 5 + 4, none⟩ = some (.int .i64 t.col) := fun u => u.cell c4
          have b0 : ∀ u : Ext wr, u.w.cell? ⟨g2, o2 + k * 5, none⟩ = some (.int .i64 t.kind) := fun u => u.cell d0
          have b1 : ∀ u : Ext wr, u.w.cell? ⟨g2, o2 + k * 5 + 1, none⟩ = some (.string ⟨t.text.toArray⟩) := fun u => u.cell d1
          have b2 : ∀ u : Ext wr, u.w.cell? ⟨g2, o2 + k * 5 + 2, none⟩ = some (.int .i64 t.val) := fun u => u.cell d2
          have b3 : ∀ u : Ext wr, u.w.cell? ⟨g2, o2 + k * 5 + 3, none⟩ = some (.int .i64 t.line) := fun u => u.cell d3
          have b4 : ∀ u : Ext wr, u.w.cell? ⟨g2, o2 + k * 5 + 4, none⟩ = some (.int .i64 t.col) := fun u => u.cell d4
          clear c0 c1 c2 c3 c4 d0 d1 d2 d3 d4
          refine wp_region_seg_all [] [] [0, 1, 2, 3, 4, 5, 6, 7, 8] (by kernel_rfl) (by kernel_rfl) ?_
          refine seg_plain rfl rfl rfl rfl rfl ?_
          intro K' hK'
          go_big_quiet_op
          go_big_quiet_on
          refine seg_plain rfl rfl rfl rfl rfl ?_
          intro K' hK'
          go_big_quiet_op
          go_big_quiet_on
          refine seg_plain rfl rfl rfl rfl rfl ?_
          intro K' hK'
          go_big_quiet_op
          go_big_quiet_on
          refine seg_plain rfl rfl rfl rfl rfl ?_
          intro K' hK'
          go_big_quiet_op
          go_big_quiet_on
          refine seg_plain rfl rfl rfl rfl rfl ?_
          intro K' hK'
          go_big_quiet_op
          go_big_quiet_on
          refine seg_plain rfl rfl rfl rfl rfl ?_
          intro K' hK'
          go_big_quiet_op
          go_big_quiet_on
          refine seg_plain rfl rfl rfl rfl rfl ?_
          intro K' hK'
          go_big_quiet_op
          go_big_quiet_on
          refine seg_plain rfl rfl rfl rfl rfl ?_
          intro K' hK'
          go_big_quiet_op
          go_big_quiet_on
          refine seg_plain rfl rfl rfl rfl rfl ?_
          intro K' hK'
          go_big_quiet_op
          go_big_quiet_on
          intro w9 hg
          have hv := HU.out.trans_ext hg.up
          clear hg e0 e1 e2 e3 e4 b0 b1 b2 b3 b4
          go_wp2_with fail
          go_roundw
          case rel => exact ⟨k + 1, by omega, by go_num, hv⟩
          case measure => simp [intOf]; omega
    · have hge' : ¬ (k : Int) < ts.length := by omega
      go_wp2_with fail
      go_ret
      exact ⟨rfl, hup⟩
end Go.Proofs.YtkhbpebpljdifaaDoor
