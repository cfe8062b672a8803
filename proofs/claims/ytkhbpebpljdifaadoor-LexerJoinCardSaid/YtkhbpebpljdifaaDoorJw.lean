/- The walk of LexerJoin. -/
import Derived.Test.YtkhbpebpljdifaaDoorRj
import Derived.Test.YtkhbpebpljdifaaDoorToI
import Derived.Test.YtkhbpebpljdifaaDoorLa
import Derived.Deep.QuietTactic
namespace Go.Proofs.YtkhbpebpljdifaaDoor
open Go.RowKit Go.PL Go.Maps

theorem IToks.take {w : World} {a : Option Addr} {n c : Nat} {ts : List ITok} (h : IToks w (.slice a n c) ts) (m : Nat) (hm : m ≤ n) : IToks w (.slice a m c) (ts.take m) := by
  obtain ⟨a', c', e⟩ := h.len
  cases e
  have hl : (ts.take m).length = m := by rw [List.length_take]; omega
  have hf : ((ts.take m).flatMap itC).length = m * 5 := by
    rw [List.length_flatMap]
    have : ∀ l : List ITok, (l.map fun t => (itC t).length).sum = l.length * 5 := fun l => by
      induction l with
      | nil => rfl
      | cons a l ih => rw [List.map_cons, List.sum_cons, ih, List.length_cons]; show 5 + _ = _; omega
    rw [this, hl]
  refine ⟨by rw [hf, hl], ?_⟩
  rcases h.2 with ⟨h0, h1⟩ | ⟨g, o, c2, h1, hc⟩
  · exact Or.inl ⟨by omega, a, c, by rw [show m = 0 by omega]⟩
  · cases h1
    refine Or.inr ⟨g, o, c, by rw [hl], fun j u hj => hc j u ?_⟩
    have hp : (ts.take m).flatMap itC ++ (ts.drop m).flatMap itC = ts.flatMap itC := by rw [← List.flatMap_append, List.take_append_drop]
    rw [← hp, List.getElem?_append_left (List.getElem?_eq_some_iff.1 hj).1]
    exact hj
theorem joinR_det (l : List ITok) : ∃ (J : List UInt8) (c : Int), ∀ e, JoinR l e → e = .returned (.tuple #[.string ⟨J.toArray⟩, .int .i64 c]) := by
  cases h : joinF l with
  | none => exact ⟨[], 3, fun e h1 => by
      rcases h1 with ⟨x, h2, _⟩ | ⟨_, h2⟩
      · rw [h] at h2; cases h2
      · exact h2⟩
  | some x => exact ⟨Lib.join x [32], 0, fun e h1 => by
      rcases h1 with ⟨y, h2, h3⟩ | ⟨h2, _⟩
      · rw [h] at h2; cases h2; exact h3
      · rw [h] at h2; cases h2⟩

set_option maxRecDepth 100000 in
set_option maxHeartbeats 12800000 in
theorem lexerJoin_walk (ts : List ITok) (v : Value) (w : World) (hT : IToks w v ts) (hl : ∃ a c, v = .slice a ts.length c ∧ ts.length ≤ c ∧ c ≤ maxLen) (he : Env w) : Calls Tryd.prog 9 #[v] w fun e w' => e = .returned (.bool true) ∧ Upto [] w w' := by
  obtain ⟨a, c, rfl, hlc, hcm⟩ := hl
  have HK := Lib.hid knownL_calls
  unfold maxLen at hcm
  obtain ⟨m, hm⟩ : ∃ m : Nat, min (ts.length : Int) 100 = m := ⟨(min (ts.length : Int) 100).toNat, by omega⟩
  have hm1 : m ≤ 100 := by omega
  have hmc : (m : Int) ≤ c := by omega
  have hm0 : (0 : Int) ≤ m := by omega
  have hT1 := hT.take m (by omega)
  have hml : (ts.take m).length = m := by rw [List.length_take]; omega
  have hci : (c : Int) ≤ 9223372036854775807 := by omega
  have hni : (ts.length : Int) ≤ c := by omega
  have h0 := Lib.hid he
  obtain ⟨J, cc, hJ⟩ := joinR_det (ts.take m)
  have HJR := Lib.hid hJ
  generalize ts.take m = us at *
  generalize ts.length = n at *
  clear hT he hJ
  have HT := Lib.hid hT1
  clear hT1
  go_enter Tryd.func9, Tryd.ntmps9
  go_wp2_with fail
  go_loopw [3] (fun i wr => ∃ k : Nat, k ≤ m ∧ i = .int .i64 k ∧ Upto [] w wr ∧ Hid (∀ t ∈ us.take k, t.text.length ≤ 300)) (fun i _ => m - (intOf i).toNat)
  case atStart => exact ⟨0, by omega, rfl, Upto.refl _ _, Lib.hid (by simp)⟩
  case round =>
    obtain ⟨k, hk, rfl, hup, HS⟩ := hrel
    have hk0 : (0 : Int) ≤ k := by omega
    rcases Nat.lt_or_ge k m with hlt | hge
    · obtain ⟨t, ht⟩ : ∃ t, us[k]? = some t := ⟨us[k], List.getElem?_eq_getElem (by omega)⟩
      have hd2 := (drop_split ht).2
      rcases HT.out.at with ⟨h1, _⟩ | ⟨g, o, c', hs, hat⟩
      · rw [h1] at hml; simp at hml; omega
      simp only [Value.slice.injEq] at hs
      obtain ⟨rfl, -, rfl⟩ := hs
      obtain ⟨-, c1, -, -, -⟩ := hat.ext hup _ _ ht
      have hlt' : (k : Int) < m := by omega
      have hsz : (ByteArray.mk t.text.toArray).size = t.text.length := rfl
      by_cases hbig : 300 < t.text.length
      · have hbig' : (300 : Int) < t.text.length := by omega
        have HKC := Lib.hid (HK.out wr (h0.out.ext hup))
        clear ht hat hd2
        go_wp2_with fail
        refine HKC.out.mono ?_
        rintro e w2 ⟨rfl, hu2⟩
        go_wp2_with fail
        go_ret
        exact ⟨rfl, hup.trans_ext hu2⟩
      · have hbig' : ¬ (300 : Int) < t.text.length := by omega
        have HS2 : Hid (∀ t ∈ us.take (k + 1), t.text.length ≤ 300) := Lib.hid (by
          intro x hx
          rw [hd2] at hx
          rcases List.mem_append.1 hx with hx | hx
          · exact HS.out x hx
          · simp at hx; subst hx; omega)
        have HU := Lib.hid hup
        clear ht hat hd2 hup HS
        go_wp2_with fail
        go_roundw
        case rel => exact ⟨k + 1, by omega, by go_num, HU.out, HS2⟩
        case measure => simp [intOf]; omega
    · have hge' : ¬ (k : Int) < m := by omega
      have hall : ∀ t ∈ us, t.text.length ≤ 300 := by
        have h := HS.out
        rwa [List.take_of_length_le (by omega)] at h
      have hv := HT.out.ext hup
      have HJC := Lib.hid (join_calls us _ wr hv (h0.out.ext hup) (by omega) (fun t ht => by have := hall t ht; omega))
      have HTC := Lib.hid (fun u (h : IToks u (.slice a m c) us) => toI_calls us (.slice a m c) u h (by omega))
      have HRC := Lib.hid (fun v u (h : IToks u v us) => joinRef_calls us v u h (by omega) (fun t ht => by have := hall t ht; omega))
      clear hall HS
      go_wp2_with fail
      refine HJC.out.mono ?_
      rintro e w2 ⟨hj, hu2⟩
      obtain rfl := HJR.out e hj
      have hu3 := hup.trans_ext hu2
      have hv3 := hv.ext hu2
      clear hj hup hu2 hv
      go_wp2_with fail
      refine (HTC.out _ hv3).mono ?_
      rintro e w4 ⟨v', rfl, hv4, hu4⟩
      have hu5 := hu3.trans_ext hu4
      clear hu3 hu4 hv3
      go_wp2_with fail
      refine (HRC.out _ _ hv4).mono ?_
      rintro e w6 ⟨hj, hu6⟩
      obtain rfl := HJR.out e hj
      have hu7 := hu5.trans_ext hu6
      clear hj hu5 hu6 hv4
      go_wp2_with fail
      refine (HK.out _ (h0.out.ext hu7)).mono ?_
      rintro e w8 ⟨rfl, hu8⟩
      go_wp2_with fail
      go_ret
      exact ⟨rfl, hu7.trans_ext hu8⟩
end Go.Proofs.YtkhbpebpljdifaaDoor
