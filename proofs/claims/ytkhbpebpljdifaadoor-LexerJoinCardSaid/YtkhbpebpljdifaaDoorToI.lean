/- To, of tokens as they come. -/
import Derived.Test.YtkhbpebpljdifaaDoorJoinA
import Derived.Test.YtkhbpebpljdifaaDoorTok
import Derived.Test.YtkhbpebpljdifaaDoorTokR
import Derived.Deep.RegionHeld3
namespace Go.Proofs.YtkhbpebpljdifaaDoor
open Go.RowKit Go.PL Go.Maps

theorem IToks.of_row {w : World} {B : Nat} {e : TypeId} {v : Value} {ts : List ITok} (h : w.ownsRow B e 5 v ts.length (ts.flatMap itC)) : IToks w v ts := SlN.of_row h
theorem itC_one {t : ITok} : ∀ u ∈ itC t, u.oneCell' = true := by
  intro u h
  simp only [itC, List.mem_cons, List.not_mem_nil, or_false] at h
  rcases h with rfl | rfl | rfl | rfl | rfl <;> rfl
structure ITkR (w : World) (acc : List ITok) (l : Value) (wr : World) : Prop where
  row : wr.ownsRow 0 80 5 l acc.length (acc.flatMap itC)
  own : ∀ g, l.ownBlock = some g → w.heap.size ≤ g
  up : Upto [] w wr
theorem ITkR.ext {w wr wr' : World} {acc : List ITok} {l : Value} (h : ITkR w acc l wr) (hu : Upto [] wr wr') : ITkR w acc l wr' := ⟨ownsRow_upto h.row hu (by simp), h.own, h.up.trans_ext hu⟩
theorem ITkR.app' {w wr wr' : World} {acc : List ITok} {l : Value} {t : ITok} {src : Obj} {n : Nat} {b' : Option Addr} {c' : Nat} (h : ITkR w acc l wr) (hn : acc.length = n) (ho : wr'.ownsRow 0 80 5 (.slice b' (n + 1) c') (n + 1) (acc.flatMap itC ++ itC t)) (hu : Upto l.ownBlock.toList (wr.alloc src) wr') (hw : ∀ g, (Value.slice b' (n + 1) c').ownBlock = some g → l.ownBlock = some g ∨ (wr.alloc src).heap.size ≤ g) :
    ITkR w (acc ++ [t]) (.slice b' (n + 1) c') wr' := by
  subst hn
  have h' := h.ext ((Upto.refl [] wr).alloc src)
  refine ⟨?_, fun g hg => (hw g hg).elim (h.own g) (fun h => Nat.le_trans h'.up.size h), h'.up.trans hu (fun k hk => Or.inr (h.own k (Option.mem_toList.1 hk)))⟩
  have e : (acc ++ [t]).flatMap itC = acc.flatMap itC ++ itC t := by simp
  rw [e, List.length_append]
  exact ho

set_option maxRecDepth 100000 in
set_option maxHeartbeats 6400000 in
/-- To: the same tokens -/
theorem toI_calls (ts : List ITok) (v : Value) (w : World) (hT : IToks w v ts) (hb : ts.length ≤ 1000000) : Calls Tryd.prog 17 #[v] w fun e w' => ∃ v', e = .returned v' ∧ IToks w' v' ts ∧ Upto [] w w' := by
  obtain ⟨i0, hi0, hz0, hz1, hz2⟩ := info_parts info80
  have HI := Lib.hid hi0
  have HZ0 := Lib.hid hz0
  have HZ1 := Lib.hid hz1
  have HZ2 := Lib.hid hz2
  clear hi0 hz0 hz1 hz2
  obtain ⟨pa, pc, rfl⟩ := hT.len
  have HAT := Lib.hid hT.at
  clear hT
  have hM : ITkR w [] (.slice none 0 0) w := ⟨⟨rfl, Or.inl ⟨rfl, rfl⟩⟩, fun g hg => (by cases hg), Upto.refl _ _⟩
  go_enter Tryd.func17, Tryd.ntmps17
  go_wp2_with fail
  go_loopw [3, 4] (fun l i wr => ∃ k : Nat, k ≤ ts.length ∧ i = .int .i64 k ∧ ITkR w (ts.take k) l wr) (fun _ i _ => ts.length - (intOf i).toNat)
  case atStart => exact ⟨0, by omega, rfl, by simpa using hM⟩
  case round =>
    obtain ⟨k, hk, rfl, hM'⟩ := hrel
    clear hM
    obtain ⟨va, vc, rfl, -⟩ := ownsRow_len hM'.row
    have HA := Lib.hid hM'
    rcases Nat.lt_or_ge k ts.length with hlt | hge
    · obtain ⟨t, ht⟩ : ∃ t, ts[k]? = some t := ⟨ts[k], List.getElem?_eq_getElem hlt⟩
      have htl : (ts.take k).length = k := by rw [List.length_take]; omega
      have HT : Hid (ts.take (k + 1) = ts.take k ++ [t]) := Lib.hid (by
        obtain ⟨h1, h2⟩ := List.getElem?_eq_some_iff.1 ht
        rw [List.take_succ_eq_append_getElem h1, h2])
      rcases HAT.out with ⟨h0, _⟩ | ⟨g, o, c, hs, hat⟩
      · rw [h0] at hlt; simp at hlt
      · simp only [Value.slice.injEq] at hs
        obtain ⟨rfl, -, rfl⟩ := hs
        obtain ⟨c0, c1, c2, c3, c4⟩ := hat.ext hM'.up _ _ ht
        have hMk : ITkR w (ts.take k) (.slice va k vc) wr := by have h2 := hM'; rwa [htl] at h2
        rw [htl]
        have HA := Lib.hid hMk
        have HL := Lib.hid htl
        clear hMk
        clear hM' ht hat htl
        have hlt2 : (k : Int) < ts.length := by omega
        have hk0 : (0 : Int) ≤ k := by omega
        go_wp2_with fail
        have e0 : ∀ u : Ext wr, u.w.cell? ⟨g, o + k * 5, none⟩ = some (.int .i64 t.kind) := fun u => u.cell c0
        have e1 : ∀ u : Ext wr, u.w.cell? ⟨g, o + k * 5 + 1, none⟩ = some (.string ⟨t.text.toArray⟩) := fun u => u.cell c1
        have e2 : ∀ u : Ext wr, u.w.cell? ⟨g, o + k * 5 + 2, none⟩ = some (.int .i64 t.val) := fun u => u.cell c2
        have e3 : ∀ u : Ext wr, u.w.cell? ⟨g, o + k * 5 + 3, none⟩ = some (.int .i64 t.line) := fun u => u.cell c3
        have e4 : ∀ u : Ext wr, u.w.cell? ⟨g, o + k * 5 + 3 + 1, none⟩ = some (.int .i64 t.col) := fun u => u.cell c4
        have e5 : ∀ u : Ext wr, u.w.cell? ⟨g, o + k * 5 + 4, none⟩ = some (.int .i64 t.col) := fun u => u.cell c4
        clear c0 c1 c2 c3 c4
        refine wp_region_noPanic ?_
        refine wp_region_segP_at [] [] [0] [1, 2, 3, 4, 5, 6, 7, 8, 9, 10, 11, 12, 13, 14, 15, 16, 17, 18, 19, 20, 21, 22, 23, 24, 25, 26, 27, 28] [29, 30, 31] 29 (fun _ _ _ _ _ h => h) (by kernel_rfl) (by kernel_rfl) (by kernel_rfl) ?_
        refine pre_plain rfl rfl rfl ?_
        intro K' hK'
        go_big_quiet_op
        go_big_quiet_on
        refine seg_plain rfl rfl rfl rfl rfl ?_
        intro K' hK'
        go_big_quiet_op
        go_big_quiet_on
        refine seg_plain rfl rfl rfl rfl rfl ?_
        intro K' hK'
        go_big_quiet_op
        go_big_quiet_on
        refine seg_plain rfl rfl rfl rfl rfl ?_
        intro K' hK'
        go_big_quiet_op
        go_big_quiet_on
        refine seg_plain rfl rfl rfl rfl rfl ?_
        intro K' hK'
        go_big_quiet_op
        go_big_quiet_on
        refine seg_plain rfl rfl rfl rfl rfl ?_
        intro K' hK'
        go_big_quiet_op
        go_big_quiet_on
        refine seg_plain rfl rfl rfl rfl rfl ?_
        intro K' hK'
        go_big_quiet_op
        go_big_quiet_on
        refine seg_plain rfl rfl rfl rfl rfl ?_
        intro K' hK'
        go_big_quiet_op
        go_big_quiet_on
        refine seg_plain rfl rfl rfl rfl rfl ?_
        intro K' hK'
        go_big_quiet_op
        go_big_quiet_on
        refine seg_plain rfl rfl rfl rfl rfl ?_
        intro K' hK'
        go_big_quiet_op
        go_big_quiet_on
        refine seg_plain rfl rfl rfl rfl rfl ?_
        intro K' hK'
        go_big_quiet_op
        go_big_quiet_on
        refine seg_plain rfl rfl rfl rfl rfl ?_
        intro K' hK'
        go_big_quiet_op
        go_big_quiet_on
        refine seg_plain rfl rfl rfl rfl rfl ?_
        intro K' hK'
        go_big_quiet_op
        go_big_quiet_on
        refine seg_plain rfl rfl rfl rfl rfl ?_
        intro K' hK'
        go_big_quiet_op
        go_big_quiet_on
        refine seg_plain rfl rfl rfl rfl rfl ?_
        intro K' hK'
        go_big_quiet_op
        go_big_quiet_on
        refine seg_plain rfl rfl rfl rfl rfl ?_
        intro K' hK'
        go_big_quiet_op
        go_big_quiet_on
        refine seg_plain rfl rfl rfl rfl rfl ?_
        intro K' hK'
        go_big_quiet_op
        go_big_quiet_on
        refine seg_plain rfl rfl rfl rfl rfl ?_
        intro K' hK'
        go_big_quiet_op
        go_big_quiet_on
        refine seg_plain rfl rfl rfl rfl rfl ?_
        intro K' hK'
        go_big_quiet_op
        go_big_quiet_on
        refine seg_plain rfl rfl rfl rfl rfl ?_
        intro K' hK'
        go_big_quiet_op
        go_big_quiet_on
        refine seg_plain rfl rfl rfl rfl rfl ?_
        intro K' hK'
        go_big_quiet_op
        go_big_quiet_on
        refine seg_plain rfl rfl rfl rfl rfl ?_
        intro K' hK'
        go_big_quiet_op
        go_big_quiet_on
        refine seg_plain rfl rfl rfl rfl rfl ?_
        intro K' hK'
        go_big_quiet_op
        go_big_quiet_on
        refine seg_plain rfl rfl rfl rfl rfl ?_
        intro K' hK'
        go_big_quiet_op
        go_big_quiet_on
        refine seg_plain rfl rfl rfl rfl rfl ?_
        intro K' hK'
        go_big_quiet_op
        go_big_quiet_on
        refine seg_plain rfl rfl rfl rfl rfl ?_
        intro K' hK'
        go_big_quiet_op
        go_big_quiet_on
        refine seg_plain rfl rfl rfl rfl rfl ?_
        intro K' hK'
        go_big_quiet_op
        go_big_quiet_on
        refine seg_plain rfl rfl rfl rfl rfl ?_
        intro K' hK'
        go_big_quiet_op
        go_big_quiet_on
        refine seg_plain rfl rfl rfl rfl rfl ?_
        intro K' hK'
        go_big_quiet_op
        go_big_quiet_on
        intro w9 hg
        have hv := hg.up
        clear hg e0 e1 e2 e3 e4 e5
        simp only [List.drop_succ_cons, List.drop_zero]
        have HM9 := Lib.hid (HA.out.ext hv)
        have hrow := (HM9.out.ext ((Upto.refl [] w9).alloc (.cells #[.int .i64 t.kind, .string ⟨t.text.toArray⟩, .int .i64 t.val, .int .i64 t.line, .int .i64 t.col] 80))).row
        have hsrc := cells_at (l := itC t) (new_at w9 (.cells #[.int .i64 t.kind, .string ⟨t.text.toArray⟩, .int .i64 t.val, .int .i64 t.line, .int .i64 t.col] 80))
        rw [HL.out] at hrow
        clear hv
        go_wp2_with (at_builtin; refine wpList_app _ rfl (.tmp 11) (.tmp 40) 28 rfl 80 i0 (.agg #[.int .i64 0, .string ⟨#[]⟩, .int .i64 0, .int .i64 0, .int .i64 0]) 5 48 Tryd.underlying28 HI.out HZ0.out HZ1.out HZ2.out rfl (by decide) (.slice va k vc) k _ rfl hrow ⟨w9.heap.size, 0, none⟩ 1 1 (itC t) rfl rfl hsrc itC_one (by unfold maxLen; omega) (by omega) ?_; intro vb vd w4 ho4 hu4 hw4; have HM4 := Lib.hid (HM9.out.app' (t := t) HL.out ho4 hu4 hw4); clear hrow hsrc ho4 hu4 hw4)
        refine NoPanic.normal ?_
        go_wp2_with fail
        go_roundw
        case rel => exact ⟨k + 1, by omega, by go_num, by rw [HT.out]; exact HM4.out⟩
        case measure => simp [intOf]; omega
    · have hge' : ¬ (k : Int) < ts.length := by omega
      have htk : ts.take k = ts := List.take_of_length_le hge
      rw [htk] at HA ⊢
      clear hM'
      go_wp2_with fail
      go_ret
      exact ⟨_, rfl, IToks.of_row HA.out.row, HA.out.up⟩

end Go.Proofs.YtkhbpebpljdifaaDoor
