/- The walk of LexerIdentifiers. -/
import Derived.Test.YtkhbpebpljdifaaDoorOne
import Derived.Test.YtkhbpebpljdifaaDoorSeg
namespace Go.Proofs.YtkhbpebpljdifaaDoor
open Go.RowKit Go.PL Go.Maps

theorem word_no_ident {x : List UInt8} (h : x ∈ lxWords) : identF x = false := by
  have h2 : lxWords.all (fun x => !nameF x) = true := by kernel_rfl
  have h3 := List.all_eq_true.1 h2 x h
  rw [ident_name (by have := words_short h; omega)]
  simpa using h3

set_option maxRecDepth 100000 in
set_option maxHeartbeats 6400000 in
theorem lexerIdentifiers_walk (s : List UInt8) (hs : s.length ≤ maxLen) (w : World) (he : Env w) : Calls Tryd.prog 7 #[.string ⟨s.toArray⟩] w fun e w' => e = .returned (.bool true) ∧ Upto [] w w' := by
  have hsz : (ByteArray.mk s.toArray).size = s.length := rfl
  have hq : (s.take 3000).length ≤ 3000 := by rw [List.length_take]; omega
  have HI := Lib.hid (fun u h => isIdent_calls (s.take 3000) u h (by omega))
  have HM := Lib.hid (fun u => isName_calls (s.take 3000) u (by omega))
  have HEQ := Lib.hid (ident_name (s := s.take 3000) (by omega))
  have HK := Lib.hid knownL_calls
  have HKW := Lib.hid (keywords_calls w he)
  have HID := Lib.hid (fun (x : List UInt8) (h : x ∈ lxWords) u h2 => isIdent_calls x u h2 (by have := words_short h; omega))
  unfold maxLen at hs
  have hx := cut3000 s
  have hI : (s.length : Int) ≤ 9223372036854775807 := by omega
  have hmin0 : (0 : Int) ≤ min (s.length : Int) 3000 := by omega
  have hmin1 : min (s.length : Int) 3000 ≤ s.length := by omega
  have h0 := Lib.hid he
  have hu1 : Upto [] w (w.alloc (.cells (lxWords.map sb).toArray 9)) := (Upto.refl [] w).alloc _
  have hb1 := new_at w (.cells (lxWords.map sb).toArray 9)
  have HRW := Lib.hid (wordsR_calls (w.alloc (.cells (lxWords.map sb).toArray 9)))
  have hu2 := hu1.alloc (.cells (lxWords.map sb).toArray 9)
  have hb2 := new_at (w.alloc (.cells (lxWords.map sb).toArray 9)) (.cells (lxWords.map sb).toArray 9)
  have hb1' := alloc_old hb1 (.cells (lxWords.map sb).toArray 9)
  simp only [World.size_alloc] at hb2 HRW
  generalize s.take 3000 = q at *
  clear he hq
  go_enter Tryd.func7, Tryd.ntmps7
  go_wp2_with fail
  refine HKW.out.mono ?_
  rintro e w1 ⟨rfl, rfl⟩
  go_wp2_with fail
  refine HRW.out.mono ?_
  rintro e w2 ⟨rfl, rfl⟩
  clear hu1 hb1 HKW HRW
  generalize (w.alloc (.cells (lxWords.map sb).toArray 9)).alloc (.cells (lxWords.map sb).toArray 9) = W2 at *
  go_wp2_with fail
  go_loopw [5] (fun i wr => ∃ k : Nat, k ≤ 26 ∧ i = .int .i64 k ∧ Upto [] W2 wr) (fun i _ => 26 - (intOf i).toNat)
  case atStart => exact ⟨0, by omega, rfl, Upto.refl _ _⟩
  case round =>
    obtain ⟨k, hk, rfl, hup⟩ := hrel
    rcases Nat.lt_or_ge k 26 with hlt | hge
    · obtain ⟨x, hxk⟩ : ∃ x, lxWords[k]? = some x := ⟨_, List.getElem?_eq_getElem (by rw [words_len]; exact hlt)⟩
      have c1 : wr.cell? ⟨w.heap.size, k, none⟩ = some (.string ⟨x.toArray⟩) := by
        rw [hup.cell (p := ⟨w.heap.size, k, none⟩) (lt_of_heap hb1') (by simp), cell_of hb1']
        simp [hxk, sb]
      have c2 : wr.cell? ⟨w.heap.size + 1, k, none⟩ = some (.string ⟨x.toArray⟩) := by
        rw [hup.cell (p := ⟨w.heap.size + 1, k, none⟩) (lt_of_heap hb2) (by simp), cell_of hb2]
        simp [hxk, sb]
      have hm := List.mem_of_getElem? hxk
      have HIX := Lib.hid (HID.out x hm)
      have HNO := Lib.hid (word_no_ident hm)
      have hlt' : (k : Int) < 26 := by omega
      have hk0 : (0 : Int) ≤ k := by omega
      have henv := h0.out.ext (hu2.trans_ext hup)
      have HENV := Lib.hid henv
      clear hxk hm henv hb1' hb2
      have HUP := Lib.hid hup
      clear hup
      go_wp2_with fail
      have e0 : ∀ u : Ext wr, u.w.cell? ⟨w.heap.size, k, none⟩ = some (.string ⟨x.toArray⟩) := fun u => u.cell c1
      have e1 : ∀ u : Ext wr, u.w.cell? ⟨w.heap.size + 1, k, none⟩ = some (.string ⟨x.toArray⟩) := fun u => u.cell c2
      clear c1 c2
      refine wp_region_seg_all [14] [] [0, 1, 2, 3, 4, 5, 6, 7, 8, 9, 10, 11, 12, 13, 14, 15] (by kernel_rfl) (by kernel_rfl) ?_
      refine seg_plain rfl rfl rfl rfl rfl ?_
      intro K' hK'
      go_big_quiet_op
      go_big_quiet_on
      refine seg_plain rfl rfl rfl rfl rfl ?_
      intro K' hK'
      go_big_quiet_op
      go_big_quiet_on
      refine seg_plain rfl rfl rfl rfl rfl ?_
      intro K' hK'
      go_big_quiet_op
      go_big_quiet_on
      refine seg_plain rfl rfl rfl rfl rfl ?_
      intro K' hK'
      go_big_quiet_op
      go_big_quiet_on
      refine seg_plain rfl rfl rfl rfl rfl ?_
      intro K' hK'
      go_big_quiet_op
      go_big_quiet_on
      refine seg_plain rfl rfl rfl rfl rfl ?_
      intro K' hK'
      go_big_quiet_op
      go_big_quiet_on
      refine seg_plain rfl rfl rfl rfl rfl ?_
      intro K' hK'
      go_big_quiet_op
      go_big_quiet_on
      refine seg_plain rfl rfl rfl rfl rfl ?_
      intro K' hK'
      go_big_quiet_op
      go_big_quiet_on
      refine seg_plain rfl rfl rfl rfl rfl ?_
      intro K' hK'
      go_big_quiet_op
      go_big_quiet_on
      refine seg_plain rfl rfl rfl rfl rfl ?_
      intro K' hK'
      go_big_quiet_op
      go_big_quiet_on
      refine seg_plain rfl rfl rfl rfl rfl ?_
      intro K' hK'
      go_big_quiet_op
      go_big_quiet_on
      refine seg_plain rfl rfl rfl rfl rfl ?_
      intro K' hK'
      go_big_quiet_op
      go_big_quiet_on
      refine seg_plain rfl rfl rfl rfl rfl ?_
      intro K' hK'
      go_big_quiet_op
      go_big_quiet_on
      refine seg_plain rfl rfl rfl rfl rfl ?_
      intro K' hK'
      go_big_quiet_op
      go_big_quiet_on
      refine seg_call rfl rfl rfl rfl (fun w => by go_simp) (fun w hu hd => (HIX.out w (HENV.out.ext hu)).mono fun e w' h => ⟨h.1, h.2⟩) ?_
      simp only [Act.put, List.setIfInBounds_toArray, List.set_cons_zero, List.set_cons_succ]
      rw [HNO.out]
      refine seg_plain rfl rfl rfl rfl rfl ?_
      intro K' hK'
      go_big_quiet_op
      go_big_quiet_on
      intro w9 hg
      have hv := HUP.out.trans_ext hg.up
      clear hg e0 e1
      go_wp2_with fail
      go_roundw
      case rel => exact ⟨k + 1, by omega, by go_num, hv⟩
      case measure => simp [intOf]; omega
    · have hge' : ¬ (k : Int) < 26 := by omega
      have hu3 := hu2.trans_ext hup
      clear hb1' hb2
      go_wp2_with fail
      refine (HK.out _ (h0.out.ext hu3)).mono ?_
      rintro e w4 ⟨rfl, hu4⟩
      have hu5 := hu3.trans_ext hu4
      go_wp2_with fail
      try rw [hx]
      refine (HI.out _ (h0.out.ext hu5)).mono ?_
      rintro e w6 ⟨rfl, hu6⟩
      have hu7 := hu5.trans_ext hu6
      go_wp2_with fail
      try rw [hx]
      refine (HM.out _).mono ?_
      rintro e w8 ⟨rfl, hu8⟩
      rw [HEQ.out]
      have hu9 := hu7.trans_ext hu8
      go_wp2_with fail
      go_ret
      exact ⟨ret_bool (by simp), hu9⟩
end Go.Proofs.YtkhbpebpljdifaaDoor
