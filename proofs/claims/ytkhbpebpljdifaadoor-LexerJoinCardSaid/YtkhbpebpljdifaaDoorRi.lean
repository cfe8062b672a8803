/- The reference's word on a token: right. -/
import Derived.Test.YtkhbpebpljdifaaDoorJoinA
import Derived.Test.YtkhbpebpljdifaaDoorRun
import Derived.Test.YtkhbpebpljdifaaDoorPos
import Derived.Deep.QuietTactic
namespace Go.Proofs.YtkhbpebpljdifaaDoor
open Go.RowKit Go.PL Go.Maps

def itA (t : ITok) : Value := .agg #[.int .i64 t.kind, .string ⟨t.text.toArray⟩, .int .i64 t.val, .int .i64 t.line, .int .i64 t.col]
def rightI (t : ITok) : Prop := if t.kind = 0 then t.text = [] ∧ t.val = 0 else goodI t
def RiR (t : ITok) (e : Ending) : Prop := ∃ b : Bool, e = .returned (.bool b) ∧ (b = true ↔ rightI t)
theorem goodI_iff {t : ITok} (hl : t.text.length ≤ 65536) : goodI t ↔ ∃ k v : Nat, Real k t.text v ∧ t.kind = k ∧ t.val = v :=
  ⟨fun ⟨k, v, h, h1, h2⟩ => ⟨k, v, (oneF_real.1 h).2, h1, h2⟩, fun ⟨k, v, h, h1, h2⟩ => ⟨k, v, oneF_real.2 ⟨hl, h⟩, h1, h2⟩⟩
theorem good_mark {s : List UInt8} {v l c : Int} (hl : s.length ≤ 65536) : goodI ⟨4, s, v, l, c⟩ ↔ ∃ b, s = [b] ∧ lxMark b = true ∧ v = 0 := by
  rw [goodI_iff hl]
  constructor
  · rintro ⟨k, n, h, h1, h2⟩
    simp only at h h1 h2
    rcases h with ⟨b, h3, h4, h5, h6⟩ | ⟨_, _, h5⟩
    · exact ⟨b, h3, h4, by omega⟩
    · have := classify_kind h5
      omega
  · rintro ⟨b, rfl, h1, rfl⟩
    exact ⟨4, 0, Or.inl ⟨b, rfl, h1, rfl, rfl⟩, rfl, rfl⟩
theorem good_else {k : Int} {s : List UInt8} {v l c : Int} (hl : s.length ≤ 65536) (h4 : k ≠ 4) : goodI ⟨k, s, v, l, c⟩ ↔ s ≠ [] ∧ (∀ x ∈ s, lxInner x = true) ∧ ∃ k' v' : Nat, classify s = .ok (k', v') ∧ (k' : Int) = k ∧ (v' : Int) = v := by
  rw [goodI_iff hl]
  constructor
  · rintro ⟨k', n, h, h1, h2⟩
    simp only at h h1 h2
    rcases h with ⟨b, h3, h4', h5, h6⟩ | ⟨a1, a2, h5⟩
    · omega
    · exact ⟨a1, a2, k', n, h5, h1.symm, h2.symm⟩
  · rintro ⟨a1, a2, k', v', h5, h1, h2⟩
    exact ⟨k', v', Or.inr ⟨a1, a2, h5⟩, h1.symm, h2.symm⟩
theorem all_run {s : List UInt8} : (s.takeWhile lxInner).length = s.length ↔ ∀ x ∈ s, lxInner x = true := by
  induction s with
  | nil => simp
  | cons b s ih =>
    cases hb : lxInner b with
    | true => simp [List.takeWhile_cons, hb, ih]
    | false => simp [List.takeWhile_cons, hb]

set_option maxRecDepth 100000 in
set_option maxHeartbeats 12800000 in
theorem right_calls (t : ITok) (w : World) (hl : t.text.length ≤ 65536) : Calls Tryd.prog 46 #[itA t] w fun e w' => RiR t e ∧ Upto [] w w' := by
  obtain ⟨k, s, v, l, c⟩ := t
  simp only at hl
  have hsz : (ByteArray.mk s.toArray).size = s.length := rfl
  have hu1 := (Upto.refl [] w).alloc (.cells #[.int .i64 k, .string ⟨s.toArray⟩, .int .i64 v, .int .i64 l, .int .i64 c] 80)
  unfold itA
  by_cases h0 : k = 0
  · subst h0
    have HR : Hid (rightI ⟨0, s, v, l, c⟩ ↔ (s = [] ∧ v = 0)) := Lib.hid (by simp [rightI])
    cases s with
    | nil =>
      by_cases hv : v = 0
      · have hv1 : (v == 0) = true := by simp [hv]
        have HRR : Hid (true = true ↔ rightI ⟨0, [], v, l, c⟩) := Lib.hid (by rw [HR.out]; simp [hv])
        clear hv
        go_enter Tryd.func46, Tryd.ntmps46
        go_wp2_with fail
        go_ret
        exact ⟨⟨_, rfl, by simpa using HRR.out⟩, hu1⟩
      · have hv1 : (v == 0) = false := by simp [hv]
        have HRR : Hid (false = true ↔ rightI ⟨0, [], v, l, c⟩) := Lib.hid (by rw [HR.out]; simp [hv])
        clear hv
        go_enter Tryd.func46, Tryd.ntmps46
        go_wp2_with fail
        go_ret
        exact ⟨⟨_, rfl, by simpa using HRR.out⟩, hu1⟩
    | cons b r =>
      have HRR : Hid (false = true ↔ rightI ⟨0, b :: r, v, l, c⟩) := Lib.hid (by rw [HR.out]; simp)
      have hs1 : ((b :: r) == ([] : List UInt8)) = false := rfl
      generalize b :: r = s at *
      go_enter Tryd.func46, Tryd.ntmps46
      go_wp2_with fail
      go_ret
      exact ⟨⟨_, rfl, by simpa using HRR.out⟩, hu1⟩
  · have hk0 : (k == 0) = false := by simp [h0]
    have HR : Hid (rightI ⟨k, s, v, l, c⟩ ↔ goodI ⟨k, s, v, l, c⟩) := Lib.hid (by simp [rightI, h0])
    by_cases h4 : k = 4
    · subst h4
      have HG := Lib.hid (good_mark (v := v) (l := l) (c := c) hl)
      by_cases hs1 : s.length = 1
      · obtain ⟨b, rfl⟩ : ∃ b, s = [b] := List.length_eq_one_iff.1 hs1
        have HM := Lib.hid markR_calls
        have hat := str_at (s := [b]) (k := 0) (b := b) rfl
        cases hm : lxMark b with
        | false =>
          have HMB := Lib.hid hm
          have HRR : Hid (false = true ↔ rightI ⟨4, [b], v, l, c⟩) := Lib.hid (by rw [HR.out, HG.out]; simp [hm])
          clear hm hs1 h0
          go_enter Tryd.func46, Tryd.ntmps46
          go_wp2_with fail
          refine (HM.out _ _).mono ?_
          rintro e w2 ⟨rfl, hw⟩
          have hw' := hw.symm
          subst hw'
          rw [HMB.out]
          go_wp2_with fail
          go_ret
          exact ⟨⟨_, rfl, by simpa using HRR.out⟩, hu1⟩
        | true =>
          have HMB := Lib.hid hm
          by_cases hv : v = 0
          · have hv1 : (v == 0) = true := by simp [hv]
            have HRR : Hid (true = true ↔ rightI ⟨4, [b], v, l, c⟩) := Lib.hid (by rw [HR.out, HG.out]; simp [hm, hv])
            clear hv hm hs1 h0
            go_enter Tryd.func46, Tryd.ntmps46
            go_wp2_with fail
            refine (HM.out _ _).mono ?_
            rintro e w2 ⟨rfl, hw⟩
            have hw' := hw.symm
            subst hw'
            rw [HMB.out]
            go_wp2_with fail
            go_ret
            exact ⟨⟨_, rfl, by simpa using HRR.out⟩, hu1⟩
          · have hv1 : (v == 0) = false := by simp [hv]
            have HRR : Hid (false = true ↔ rightI ⟨4, [b], v, l, c⟩) := Lib.hid (by rw [HR.out, HG.out]; simp [hm, hv])
            clear hv hm hs1 h0
            go_enter Tryd.func46, Tryd.ntmps46
            go_wp2_with fail
            refine (HM.out _ _).mono ?_
            rintro e w2 ⟨rfl, hw⟩
            have hw' := hw.symm
            subst hw'
            rw [HMB.out]
            go_wp2_with fail
            go_ret
            exact ⟨⟨_, rfl, by simpa using HRR.out⟩, hu1⟩
      · have hs2 : ((s.length : Int) == 1) = false := by rw [beq_eq_false_iff_ne]; omega
        have HRR : Hid (false = true ↔ rightI ⟨4, s, v, l, c⟩) := Lib.hid (by
          rw [HR.out, HG.out]
          simp only [Bool.false_eq_true, false_iff]
          rintro ⟨b, rfl, _⟩
          exact hs1 rfl)
        clear hs1 h0
        go_enter Tryd.func46, Tryd.ntmps46
        go_wp2_with fail
        go_ret
        exact ⟨⟨_, rfl, by simpa using HRR.out⟩, hu1⟩
    · have hk4 : (k == 4) = false := by simp [h4]
      have HG := Lib.hid (good_else (k := k) (v := v) (l := l) (c := c) hl h4)
      have HRUN := Lib.hid (runR_calls s 0 (by omega) (by omega))
      rw [List.drop_zero] at HRUN
      cases s with
      | nil =>
        have HRR : Hid (false = true ↔ rightI ⟨k, [], v, l, c⟩) := Lib.hid (by rw [HR.out, HG.out]; simp)
        have hs0 : (([] : List UInt8).length : Int) = 0 := rfl
        clear h0 h4
        generalize hss : ([] : List UInt8) = s at *
        have hs00 : ((s.length : Int) == 0) = true := by simp [hs0]
        clear hs0
        go_enter Tryd.func46, Tryd.ntmps46
        go_wp2_with fail
        go_quiet (fail)
        have hv := hu1.drewN nq
        go_wp2_with fail
        go_ret
        exact ⟨⟨_, rfl, by simpa using HRR.out⟩, hv⟩
      | cons b r =>
        have HTK := Lib.hid (tokenR_calls b r)
        have hs0 : (((b :: r).length : Int) == 0) = false := by rw [beq_eq_false_iff_ne]; simp only [List.length_cons]; omega
        have HNE : Hid (b :: r ≠ []) := Lib.hid (by simp)
        generalize b :: r = s at *
        by_cases hin : (s.takeWhile lxInner).length = s.length
        · have HIN := Lib.hid (all_run.1 hin)
          rw [hin] at HRUN
          clear h0 h4 hin
          go_enter Tryd.func46, Tryd.ntmps46
          go_wp2_with fail
          generalize hww : w.alloc (.cells #[.int .i64 k, .string ⟨s.toArray⟩, .int .i64 v, .int .i64 l, .int .i64 c] 80) = W1 at *
          have c0 : W1.cell? ⟨w.heap.size, 0, none⟩ = some (.int .i64 k) := by rw [← hww, cell_of (new_at w _)]; rfl
          have c1 : W1.cell? ⟨w.heap.size, 1, none⟩ = some (.string ⟨s.toArray⟩) := by rw [← hww, cell_of (new_at w _)]; rfl
          have c2 : W1.cell? ⟨w.heap.size, 2, none⟩ = some (.int .i64 v) := by rw [← hww, cell_of (new_at w _)]; rfl
          generalize w.heap.size = B at *
          clear hww
          go_quiet (first | (go_at_call 40; exact Calls.quiet_of_same (HRUN.out _)))
          have hv := hu1.drewN nq
          have hvv := (Upto.refl [] W1).drewN nq
          generalize W1.drewN nq = w9 at *
          have d0 := (hvv.cell (World.block_lt_of_cell? W1 _ c0) (by simp)).trans c0
          have d1 := (hvv.cell (World.block_lt_of_cell? W1 _ c1) (by simp)).trans c1
          have d2 := (hvv.cell (World.block_lt_of_cell? W1 _ c2) (by simp)).trans c2
          clear c0 c1 c2 hvv hu1
          go_wp2_with fail
          refine (HTK.out _ (by omega)).mono ?_
          rintro e w10 ⟨⟨k', v', n, x, rfl, hc⟩, hu10⟩
          have q0 := (hu10.cell (World.block_lt_of_cell? w9 _ d0) (by simp)).trans d0
          have q2 := (hu10.cell (World.block_lt_of_cell? w9 _ d2) (by simp)).trans d2
          have hv10 := hv.trans_ext hu10
          have hv11 := hv10.alloc (.cells #[.int .i64 k', .string ⟨x.toArray⟩, .int .i64 v', .int .i64 0, .int .i64 0] 80)
          have hue := (Upto.refl [] w10).alloc (.cells #[.int .i64 k', .string ⟨x.toArray⟩, .int .i64 v', .int .i64 0, .int .i64 0] 80)
          have p0 := (hue.cell (World.block_lt_of_cell? w10 _ q0) (by simp)).trans q0
          have p2 := (hue.cell (World.block_lt_of_cell? w10 _ q2) (by simp)).trans q2
          clear d0 d1 d2 q0 q2 hue hv hu10 hv10
          unfold tkV
          rcases hc with ⟨rfl, rfl, hc⟩ | ⟨hn, hc⟩
          · by_cases hkk : (k' : Int) = k
            · by_cases hvv : (v' : Int) = v
              · have HRR : Hid (true = true ↔ rightI ⟨k, x, v, l, c⟩) := Lib.hid (by
                  rw [HR.out, HG.out]
                  simp only [true_iff]
                  exact ⟨HNE.out, HIN.out, k', v', hc, hkk, hvv⟩)
                have b1 : ((k' : Int) == k) = true := by simp [hkk]
                have b2 : ((v' : Int) == v) = true := by simp [hvv]
                clear hkk hvv hc
                go_wp2_with fail
                go_ret
                exact ⟨⟨_, rfl, by simpa using HRR.out⟩, hv11⟩
              · have HRR : Hid (false = true ↔ rightI ⟨k, x, v, l, c⟩) := Lib.hid (by
                  rw [HR.out, HG.out]
                  simp only [Bool.false_eq_true, false_iff]
                  rintro ⟨_, _, k2, v2, h1, h2, h3⟩
                  rw [hc] at h1
                  cases h1
                  exact hvv h3)
                have b1 : ((k' : Int) == k) = true := by simp [hkk]
                have b2 : ((v' : Int) == v) = false := by simp [hvv]
                clear hkk hvv hc
                go_wp2_with fail
                go_ret
                exact ⟨⟨_, rfl, by simpa using HRR.out⟩, hv11⟩
            · have HRR : Hid (false = true ↔ rightI ⟨k, x, v, l, c⟩) := Lib.hid (by
                rw [HR.out, HG.out]
                simp only [Bool.false_eq_true, false_iff]
                rintro ⟨_, _, k2, v2, h1, h2, h3⟩
                rw [hc] at h1
                cases h1
                exact hkk h2)
              have b1 : ((k' : Int) == k) = false := by simp [hkk]
              clear hkk hc
              go_wp2_with fail
              go_ret
              exact ⟨⟨_, rfl, by simpa using HRR.out⟩, hv11⟩
          · have HRR : Hid (false = true ↔ rightI ⟨k, s, v, l, c⟩) := Lib.hid (by
              rw [HR.out, HG.out]
              simp only [Bool.false_eq_true, false_iff]
              rintro ⟨_, _, k2, v2, h1, h2, h3⟩
              rw [hc] at h1
              cases h1)
            have b1 : ((n : Int) == 0) = false := by rw [beq_eq_false_iff_ne]; omega
            clear hn hc
            go_wp2_with fail
            go_ret
            exact ⟨⟨_, rfl, by simpa using HRR.out⟩, hv11⟩
        · have HRR : Hid (false = true ↔ rightI ⟨k, s, v, l, c⟩) := Lib.hid (by
            rw [HR.out, HG.out]
            simp only [Bool.false_eq_true, false_iff]
            rintro ⟨_, h1, _⟩
            exact hin (all_run.2 h1))
          generalize (s.takeWhile lxInner).length = m at *
          have hmm : ((m : Int) == s.length) = false := by rw [beq_eq_false_iff_ne]; omega
          have hmn : ((m : Int) != s.length) = true := by rw [bne, hmm]; rfl
          clear h0 h4 hin
          go_enter Tryd.func46, Tryd.ntmps46
          go_wp2_with fail
          generalize hww : w.alloc (.cells #[.int .i64 k, .string ⟨s.toArray⟩, .int .i64 v, .int .i64 l, .int .i64 c] 80) = W1 at *
          have c1 : W1.cell? ⟨w.heap.size, 1, none⟩ = some (.string ⟨s.toArray⟩) := by rw [← hww, cell_of (new_at w _)]; rfl
          generalize w.heap.size = B at *
          clear hww
          go_quiet (first | (go_at_call 40; exact Calls.quiet_of_same (HRUN.out _)))
          have hv := hu1.drewN nq
          have hvv := (Upto.refl [] W1).drewN nq
          generalize W1.drewN nq = w9 at *
          clear c1
          go_wp2_with fail
          go_ret
          exact ⟨⟨_, rfl, by simpa using HRR.out⟩, hv⟩
end Go.Proofs.YtkhbpebpljdifaaDoor
