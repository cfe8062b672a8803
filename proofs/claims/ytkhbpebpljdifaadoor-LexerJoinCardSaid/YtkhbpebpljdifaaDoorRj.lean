/- The reference's Join. -/
import Derived.Test.YtkhbpebpljdifaaDoorRi
import Derived.Test.YtkhbpebpljdifaaDoorJn
namespace Go.Proofs.YtkhbpebpljdifaaDoor
open Go.RowKit Go.PL Go.Maps

theorem joinTail_snoc (x : List UInt8) : ∀ l : List (List UInt8), Lib.joinTail [32] (l ++ [x]) = Lib.joinTail [32] l ++ (32 :: x) := by
  intro l
  simp [Lib.joinTail]
theorem join_snoc (l : List (List UInt8)) (x : List UInt8) (h : l ≠ []) : Lib.join (l ++ [x]) [32] = Lib.join l [32] ++ [32] ++ x := by
  cases l with
  | nil => exact absurd rfl h
  | cons a l =>
    rw [List.cons_append, Lib.join_cons, Lib.join_cons, joinTail_snoc]
    simp
theorem good_ne {t : ITok} (h : goodI t) : t.kind ≠ 0 := by
  obtain ⟨k, v, h1, h2, h3⟩ := h
  have := (oneF_real.1 h1).2.kind
  omega
theorem not_right {t : ITok} {r : List ITok} (h : ¬ rightI t) : joinF (t :: r) = none := by
  unfold rightI at h
  by_cases h0 : t.kind = 0
  · rw [if_pos h0] at h
    exact joinF_bad (fun h1 => h h1.2.2) (fun h1 => good_ne h1 h0)
  · rw [if_neg h0] at h
    exact joinF_bad (fun h1 => h0 h1.2.1) h
theorem join_one (x : List UInt8) : Lib.join [x] [32] = x := by simp [Lib.join_cons, Lib.joinTail]

set_option maxRecDepth 100000 in
set_option maxHeartbeats 12800000 in
theorem joinRef_calls (ts : List ITok) (v : Value) (w : World) (hT : IToks w v ts) (hn : ts.length ≤ 1000) (hm : ∀ t ∈ ts, t.text.length ≤ 1000) : Calls Tryd.prog 23 #[v] w fun e w' => JoinR ts e ∧ Upto [] w w' := by
  obtain ⟨pa, pc, rfl⟩ := hT.len
  have HAT := Lib.hid hT.at
  have HMT := Lib.hid hm
  have HO := Lib.hid right_calls
  clear hT hm
  generalize hnn : ts.length = n at *
  have hn1 : (n : Int) ≤ 1000 := by omega
  go_enter Tryd.func23, Tryd.ntmps23
  go_wp2_with fail
  go_loopw [4, 5] (fun s i wr => ∃ (k : Nat) (P : List UInt8), k ≤ n ∧ s = .string ⟨P.toArray⟩ ∧ i = .int .i64 k ∧ P.length ≤ k * 1001 ∧ Upto [] w wr ∧ Hid ((joinF ts = (joinF (ts.drop k)).map (fun l => (ts.map ITok.text).take k ++ l) ∧ P = Lib.join ((ts.map ITok.text).take k) [32]) ∨ (k = n ∧ ∃ l, joinF ts = some l ∧ P = Lib.join l [32]))) (fun _ i _ => n - (intOf i).toNat)
  case atStart => exact ⟨0, [], by omega, rfl, rfl, by simp, Upto.refl _ _, Lib.hid (Or.inl ⟨by cases h : joinF ts <;> simp [h], rfl⟩)⟩
  case round =>
    obtain ⟨k, P, hk, rfl, rfl, hPl, hup, HI⟩ := hrel
    have hk0 : (0 : Int) ≤ k := by omega
    rcases Nat.lt_or_ge k n with hlt | hge
    · obtain ⟨t, ht⟩ : ∃ t, ts[k]? = some t := ⟨ts[k], List.getElem?_eq_getElem (by omega)⟩
      obtain ⟨hd1, -⟩ := drop_split ht
      have hd2 : (ts.map ITok.text).take (k + 1) = (ts.map ITok.text).take k ++ [t.text] := (drop_split (l := ts.map ITok.text) (by rw [List.getElem?_map, ht]; rfl)).2
      rcases HAT.out with ⟨h1, _⟩ | ⟨g, o, c, hs, hat⟩
      · rw [h1] at hnn; simp at hnn; omega
      simp only [Value.slice.injEq] at hs
      obtain ⟨rfl, -, rfl⟩ := hs
      obtain ⟨c0, c1, c2, c3, c4⟩ := hat.ext hup _ _ ht
      have htl := HMT.out t (List.mem_of_getElem? ht)
      have HD1 := Lib.hid hd1
      have HD2 := Lib.hid hd2
      have HLAST : Hid (ts.drop (k + 1) = [] ↔ k + 1 = n) := Lib.hid (by
        rw [List.drop_eq_nil_iff, hnn]
        omega)
      have hlt' : (k : Int) < n := by omega
      have HI2 : Hid (joinF ts = (joinF (ts.drop k)).map (fun l => (ts.map ITok.text).take k ++ l) ∧ P = Lib.join ((ts.map ITok.text).take k) [32]) := Lib.hid (by
        rcases HI.out with h | ⟨h, _⟩
        · exact h
        · omega)
      have HTK0 : Hid (k = 0 ↔ (ts.map ITok.text).take k = []) := Lib.hid (by
        rw [List.take_eq_nil_iff]
        constructor
        · intro h; exact Or.inl h
        · rintro (h | h)
          · exact h
          · have := congrArg List.length h; simp at this; rw [this] at ht; simp at ht)
      have HU := Lib.hid hup
      clear ht hd1 hd2 hat HI hup
      go_wp2_with fail
      refine (HO.out t _ (by omega)).mono ?_
      rintro e w2 ⟨⟨b, rfl, hb⟩, hu2⟩
      have hup := HU.out.trans_ext hu2
      have d0 := (hu2.cell (World.block_lt_of_cell? wr _ c0) (by simp)).trans c0
      have d1 := (hu2.cell (World.block_lt_of_cell? wr _ c1) (by simp)).trans c1
      clear c0 c1 c2 c3 c4 hu2 HU
      cases b with
      | false =>
        have HBAD : Hid (joinF ts = none) := Lib.hid (by
          rw [HI2.out.1, HD1.out, not_right (fun h => by have := hb.2 h; cases this)]
          rfl)
        clear hb d0 d1
        go_wp2_with fail
        go_ret2
        exact ⟨Or.inr ⟨HBAD.out, rfl⟩, hup⟩
      | true =>
        have HRI := Lib.hid (hb.1 rfl)
        clear hb
        by_cases hk00 : t.kind = 0
        · have hz0 : (t.kind == 0) = true := by simp [hk00]
          have HEO : Hid (eofI t) := Lib.hid (by
            have h := HRI.out
            unfold rightI at h
            rw [if_pos hk00] at h
            exact ⟨hk00, h.1, h.2⟩)
          by_cases hlast : k + 1 = n
          · have hlast2 : ¬ (k : Int) < (n : Int) - 1 := by omega
            have HFIN : Hid (∃ l, joinF ts = some l ∧ P = Lib.join l [32]) := Lib.hid (by
              refine ⟨_, ?_, HI2.out.2⟩
              rw [HI2.out.1, HD1.out, HLAST.out.2 hlast, joinF_eof HEO.out]
              simp)
            clear hk00
            go_wp2_with fail
            go_roundw
            case rel => exact ⟨k + 1, P, by omega, rfl, by go_num, by omega, hup, Lib.hid (Or.inr ⟨hlast, HFIN.out⟩)⟩
            case measure => simp [intOf]; omega
          · have hlast2 : (k : Int) < (n : Int) - 1 := by omega
            have HBAD : Hid (joinF ts = none) := Lib.hid (by
              rw [HI2.out.1, HD1.out, joinF_bad (fun h => hlast (HLAST.out.1 h.1)) (fun h => good_ne h hk00)]
              rfl)
            clear hk00
            go_wp2_with fail
            go_ret2
            exact ⟨Or.inr ⟨HBAD.out, rfl⟩, hup⟩
        · have hz0 : (t.kind == 0) = false := by simp [hk00]
          have HGD : Hid (goodI t) := Lib.hid (by
            have h := HRI.out
            unfold rightI at h
            rwa [if_neg hk00] at h)
          have HJ2 : Hid (joinF ts = (joinF (ts.drop (k + 1))).map (fun l => (ts.map ITok.text).take (k + 1) ++ l)) := Lib.hid (by
            rw [HI2.out.1, HD1.out, joinF_good (fun h => hk00 h.2.1) HGD.out, HD2.out, Option.map_map]
            congr 1
            funext l
            simp)
          clear hk00
          generalize htx : t.text = tx at *
          have hP1 : (ByteArray.mk P.toArray).size = P.length := rfl
          have hP3 : (ByteArray.mk tx.toArray).size = tx.length := rfl
          by_cases hk1 : k = 0
          · have hPn : P = [] := by rw [HI2.out.2, HTK0.out.1 hk1]; rfl
            subst hk1
            subst hPn
            simp only [Nat.zero_mul, Nat.add_zero] at d0 d1
            have hc0 : ByteArray.mk #[] ++ ByteArray.mk tx.toArray = ⟨tx.toArray⟩ := by
              have := ByteArray.mk_append_mk [] tx
              simpa using this
            have HJP : Hid (tx = Lib.join ((ts.map ITok.text).take (0 + 1)) [32]) := Lib.hid (by
              rw [HD2.out, HTK0.out.1 rfl, List.nil_append, join_one])
            go_wp2_with fail
            go_roundw
            case rel => exact ⟨0 + 1, tx, by omega, rfl, by go_num, by omega, hup, Lib.hid (Or.inl ⟨HJ2.out, HJP.out⟩)⟩
            case measure => simp [intOf]; omega
          · have hkp : (0 : Int) < k := by omega
            have hc1 : ByteArray.mk P.toArray ++ ByteArray.mk #[32] = ⟨(P ++ [32]).toArray⟩ := by
              have := ByteArray.mk_append_mk P [32]
              simpa using this
            have hc2 : ByteArray.mk (P ++ [32]).toArray ++ ByteArray.mk tx.toArray = ⟨(P ++ [32] ++ tx).toArray⟩ := by rw [ByteArray.mk_append_mk]
            have hP2 : (ByteArray.mk (P ++ [32]).toArray).size = P.length + 1 := by show (P ++ [32]).toArray.size = _; simp
            have HJP : Hid (P ++ [32] ++ tx = Lib.join ((ts.map ITok.text).take (k + 1)) [32]) := Lib.hid (by
              rw [HD2.out, join_snoc _ _ (fun h => hk1 (HTK0.out.2 h)), ← HI2.out.2])
            have hPb : (P.length : Int) ≤ 1001000 := by
              have : k * 1001 ≤ 1000 * 1001 := Nat.mul_le_mul_right _ (by omega)
              omega
            go_wp2_with fail
            go_roundw
            case rel => exact ⟨k + 1, P ++ [32] ++ tx, by omega, by simp, by go_num, by simp; omega, hup, Lib.hid (Or.inl ⟨HJ2.out, HJP.out⟩)⟩
            case measure => simp [intOf]; omega
    · have hge' : ¬ (k : Int) < n := by omega
      have HEND : Hid (∃ l, joinF ts = some l ∧ P = Lib.join l [32]) := Lib.hid (by
        rcases HI.out with ⟨h1, h2⟩ | ⟨_, h⟩
        · rw [List.drop_eq_nil_of_le (by omega)] at h1
          refine ⟨(ts.map ITok.text).take k, ?_, h2⟩
          rw [h1]
          simp [joinF]
        · exact h)
      go_wp2_with fail
      go_ret2
      obtain ⟨l, h1, h2⟩ := HEND.out
      subst h2
      exact ⟨Or.inl ⟨l, h1, rfl⟩, hup⟩
end Go.Proofs.YtkhbpebpljdifaaDoor
