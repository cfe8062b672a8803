/- One run of letters and digits: the lexer's run, the reference's token and run. -/
import Derived.Test.YtkhbpebpljdifaaDoorKw
namespace Go.Proofs.YtkhbpebpljdifaaDoor
open Go.RowKit Go.PL Go.Maps

theorem classify_digit {b : UInt8} {t : List UInt8} (hb : lxDigit b = true) : classify (b :: t) = if (numF (b :: t)).2 = 0 then .ok (2, (numF (b :: t)).1) else .error (numF (b :: t)).2 := by
  have h1 : decide (1 < (b :: t).length) = decide (t ≠ []) := by
    cases t <;> simp
  have h2 : numF (b :: t) = if !((b :: t).all lxDigit) || (decide (1 < (b :: t).length) && decide (b.toNat = 48)) then (0, 3) else if 2147483647 < lxNum (b :: t) then (0, 2) else (lxNum (b :: t), 0) := rfl
  rw [h1] at h2
  simp only [classify, hb, if_true]
  rw [h2]
  split
  · rfl
  · split
    · rfl
    · rfl

/-- a token's value, its place not yet known -/
def tkV (k : Nat) (s : List UInt8) (v : Nat) : Value := .agg #[.int .i64 k, .string ⟨s.toArray⟩, .int .i64 v, .int .i64 0, .int .i64 0]

/-- what a run comes to -/
def RunR (s : List UInt8) (e : Ending) : Prop := ∃ k v n : Nat, ∃ x : List UInt8, e = .returned (.tuple #[tkV k x v, .int .i64 n]) ∧
  ((n = 0 ∧ x = s ∧ classify s = .ok (k, v)) ∨ (n ≠ 0 ∧ classify s = .error n))
theorem RunR.ok {s : List UInt8} {k v : Nat} (h : classify s = .ok (k, v)) : RunR s (.returned (.tuple #[.agg #[.int .i64 k, .string ⟨s.toArray⟩, .int .i64 v, .int .i64 0, .int .i64 0], .int .i64 0])) := ⟨k, v, 0, s, rfl, Or.inl ⟨rfl, rfl, h⟩⟩
theorem RunR.bad {s : List UInt8} {n : Nat} (hn : n ≠ 0) (h : classify s = .error n) : RunR s (.returned (.tuple #[.agg #[.int .i64 0, .string ⟨#[]⟩, .int .i64 0, .int .i64 0, .int .i64 0], .int .i64 n])) := ⟨0, 0, n, [], rfl, Or.inr ⟨hn, h⟩⟩
theorem RunR.num {b : UInt8} {t : List UInt8} (hb : lxDigit b = true) : RunR (b :: t) (.returned (.tuple #[.agg #[.int .i64 2, .string ⟨(b :: t).toArray⟩, .int .i64 (numF (b :: t)).1, .int .i64 0, .int .i64 0], .int .i64 (numF (b :: t)).2])) := by
  refine ⟨2, (numF (b :: t)).1, (numF (b :: t)).2, b :: t, rfl, ?_⟩
  rw [classify_digit hb]
  by_cases h : (numF (b :: t)).2 = 0
  · exact Or.inl ⟨h, rfl, by rw [if_pos h]⟩
  · exact Or.inr ⟨h, by rw [if_neg h]⟩

/-- the cells of a new token -/
theorem tok_cells (w : World) (a b c d e : Value) (T : TypeId) : (w.alloc (.cells #[a, b, c, d, e] T)).cell? ⟨w.heap.size, 0, none⟩ = some a ∧ (w.alloc (.cells #[a, b, c, d, e] T)).cell? ⟨w.heap.size, 1, none⟩ = some b ∧ (w.alloc (.cells #[a, b, c, d, e] T)).cell? ⟨w.heap.size, 2, none⟩ = some c ∧ (w.alloc (.cells #[a, b, c, d, e] T)).cell? ⟨w.heap.size, 3, none⟩ = some d ∧ (w.alloc (.cells #[a, b, c, d, e] T)).cell? ⟨w.heap.size, 4, none⟩ = some e := by
  have h := new_at w (.cells #[a, b, c, d, e] T)
  exact ⟨by rw [cell_of h]; rfl, by rw [cell_of h]; rfl, by rw [cell_of h]; rfl, by rw [cell_of h]; rfl, by rw [cell_of h]; rfl⟩

set_option maxRecDepth 100000 in
set_option maxHeartbeats 3200000 in
theorem run_calls (b : UInt8) (t : List UInt8) (m : Value) (w : World) (hl : (b :: t).length ≤ 281474976710656) (he : Env w) (hk : Keys w m) :
    Calls Tryd.prog 37 #[.string ⟨(b :: t).toArray⟩, m] w fun e w' => RunR (b :: t) e ∧ Upto [] w w' := by
  have hu0 : Upto [] w (w.alloc (.cells #[.int .i64 0, .string ⟨#[]⟩, .int .i64 0, .int .i64 0, .int .i64 0] 36)) := (Upto.refl [] w).alloc _
  have HL := (hk.ext hu0).look (b :: t) (by omega)
  have HN := Lib.hid (number_calls b t _ hl (he.ext hu0))
  obtain ⟨bm, rfl, -⟩ := hk
  have HD := Lib.hid digit_calls
  have HT := Lib.hid letter_calls
  have hsz : (ByteArray.mk (b :: t).toArray).size = (b :: t).length := rfl
  have hat := str_at (s := b :: t) (k := 0) (b := b) rfl
  have hpos : (0 : Int) < (b :: t).length := by simp only [List.length_cons]; omega
  cases hw : lxWords.contains (b :: t) with
  | true =>
    have hc : classify (b :: t) = .ok (3, 0) := by
      have hm : (b :: t) ∈ lxWords := by simpa using hw
      have h2 : lxWords.all (fun x => match x with | [] => false | b :: _ => lxLetter b && !lxDigit b) = true := by kernel_rfl
      have h3 := List.all_eq_true.1 h2 _ hm
      simp only [Bool.and_eq_true, Bool.not_eq_true'] at h3
      simp only [classify, h3.1, h3.2, hw, Bool.false_eq_true, if_false, if_true, Bool.not_true]
    rw [hw] at HL
    have HC := Lib.hid hc
    generalize b :: t = s at *
    clear hc hw hat he HN
    go_enter Tryd.func37, Tryd.ntmps37
    go_wp2_with fail
    obtain ⟨q0, q1, q2, q3, q4⟩ := tok_cells w (.int .i64 3) (.string ⟨s.toArray⟩) (.int .i64 0) (.int .i64 0) (.int .i64 0) 36
    refine bodyPost_ret (v := .tuple #[.agg #[.int .i64 3, .string ⟨s.toArray⟩, .int .i64 0, .int .i64 0, .int .i64 0], .int .i64 0]) (by simp [results, Tryd.results37, go_sem, q0, q1, q2, q3, q4]) rfl ⟨?_, (Upto.refl _ _).alloc _⟩
    exact RunR.ok HC.out
  | false =>
    rw [hw] at HL
    cases hd : lxDigit b with
    | true =>
      have HH := Lib.hid hd
      have HF := Lib.hid (RunR.num (t := t) hd)
      generalize (numF (b :: t)).1 = nv at *
      generalize (numF (b :: t)).2 = ne at *
      generalize b :: t = s at *
      clear he hw
      go_enter Tryd.func37, Tryd.ntmps37
      go_wp2_with fail
      refine (HD.out _ _).mono ?_
      rintro e w1 ⟨rfl, rfl⟩
      rw [HH.out]
      go_wp2_with fail
      refine HN.out.mono ?_
      rintro e w2 ⟨rfl, hu2⟩
      have hb2 := hu2.at (new_at w (.cells #[.int .i64 0, .string ⟨#[]⟩, .int .i64 0, .int .i64 0, .int .i64 0] 36)) (by simp)
      have huw := hu0.trans_ext hu2
      clear hu0 hu2
      generalize hB : w.heap.size = B at *
      have q0 := cell_of hb2 0
      have q1 := cell_of hb2 1
      have q2 := cell_of hb2 2
      have q3 := cell_of hb2 3
      have q4 := cell_of hb2 4
      have f0 := free_of hb2 0
      have f1 := free_of hb2 1
      have f2 := free_of hb2 2
      have f3 := free_of hb2 3
      have f4 := free_of hb2 4
      simp only [List.getElem?_toArray, List.getElem?_cons_zero, List.getElem?_cons_succ] at q0 q1 q2 q3 q4
      clear HD HT HN HL
      go_wp2_with fail
      refine bodyPost_ret (v := .tuple #[.agg #[.int .i64 2, .string ⟨s.toArray⟩, .int .i64 nv, .int .i64 0, .int .i64 0], .int .i64 ne]) (by simp [results, Tryd.results37, go_sem, q0, q1, q2, q3, q4]) rfl ⟨HF.out, ?_⟩
      have hin : w.heap.size ≤ B := by omega
      exact ((((huw.setCell (Or.inr hin) _).setCell (Or.inr hin) _).setCell (Or.inr hin) _).setCell (Or.inr hin) _).setCell (Or.inr hin) _
    | false =>
      have HH := Lib.hid hd
      cases hlt : lxLetter b with
      | false =>
        have HJ := Lib.hid hlt
        have hc : classify (b :: t) = .error 3 := by simp only [classify, hd, hlt, Bool.false_eq_true, if_false, if_true, Bool.not_false]
        have HC := Lib.hid hc
        generalize b :: t = s at *
        clear hc hw he HN
        go_enter Tryd.func37, Tryd.ntmps37
        go_wp2_with fail
        refine (HD.out _ _).mono ?_
        rintro e w1 ⟨rfl, rfl⟩
        rw [HH.out]
        go_wp2_with fail
        refine (HT.out _ _).mono ?_
        rintro e w1 ⟨rfl, rfl⟩
        rw [HJ.out]
        go_wp2_with fail
        obtain ⟨q0, q1, q2, q3, q4⟩ := tok_cells w (.int .i64 0) (.string ⟨#[]⟩) (.int .i64 0) (.int .i64 0) (.int .i64 0) 36
        refine bodyPost_ret (v := .tuple #[.agg #[.int .i64 0, .string ⟨#[]⟩, .int .i64 0, .int .i64 0, .int .i64 0], .int .i64 3]) (by simp [results, Tryd.results37, go_sem, q0, q1, q2, q3, q4]) rfl ⟨?_, (Upto.refl _ _).alloc _⟩
        exact RunR.bad (by decide) HC.out
      | true =>
        have HJ := Lib.hid hlt
        by_cases h16 : 16 < (b :: t).length
        · have hc : classify (b :: t) = .error 2 := by simp only [classify, hd, hlt, hw, h16, Bool.false_eq_true, if_false, if_true, Bool.not_true]
          have HC := Lib.hid hc
          have h16' : (16 : Int) < (b :: t).length := by omega
          generalize b :: t = s at *
          clear hc hw he HN
          go_enter Tryd.func37, Tryd.ntmps37
          go_wp2_with fail
          refine (HD.out _ _).mono ?_
          rintro e w1 ⟨rfl, rfl⟩
          rw [HH.out]
          go_wp2_with fail
          refine (HT.out _ _).mono ?_
          rintro e w1 ⟨rfl, rfl⟩
          rw [HJ.out]
          go_wp2_with fail
          obtain ⟨q0, q1, q2, q3, q4⟩ := tok_cells w (.int .i64 0) (.string ⟨#[]⟩) (.int .i64 0) (.int .i64 0) (.int .i64 0) 36
          refine bodyPost_ret (v := .tuple #[.agg #[.int .i64 0, .string ⟨#[]⟩, .int .i64 0, .int .i64 0, .int .i64 0], .int .i64 2]) (by simp [results, Tryd.results37, go_sem, q0, q1, q2, q3, q4]) rfl ⟨?_, (Upto.refl _ _).alloc _⟩
          exact RunR.bad (by decide) HC.out
        · have hc : classify (b :: t) = .ok (1, 0) := by simp only [classify, hd, hlt, hw, h16, Bool.false_eq_true, if_false, if_true, Bool.not_true]
          have HC := Lib.hid hc
          have h16' : ¬ (16 : Int) < (b :: t).length := by omega
          generalize b :: t = s at *
          clear hc hw he HN
          go_enter Tryd.func37, Tryd.ntmps37
          go_wp2_with fail
          refine (HD.out _ _).mono ?_
          rintro e w1 ⟨rfl, rfl⟩
          rw [HH.out]
          go_wp2_with fail
          refine (HT.out _ _).mono ?_
          rintro e w1 ⟨rfl, rfl⟩
          rw [HJ.out]
          go_wp2_with fail
          obtain ⟨q0, q1, q2, q3, q4⟩ := tok_cells w (.int .i64 1) (.string ⟨s.toArray⟩) (.int .i64 0) (.int .i64 0) (.int .i64 0) 36
          refine bodyPost_ret (v := .tuple #[.agg #[.int .i64 1, .string ⟨s.toArray⟩, .int .i64 0, .int .i64 0, .int .i64 0], .int .i64 0]) (by simp [results, Tryd.results37, go_sem, q0, q1, q2, q3, q4]) rfl ⟨?_, (Upto.refl _ _).alloc _⟩
          exact RunR.ok HC.out

set_option maxRecDepth 100000 in
set_option maxHeartbeats 3200000 in
theorem tokenR_calls (b : UInt8) (t : List UInt8) (w : World) (hl : (b :: t).length ≤ 281474976710656) :
    Calls Tryd.prog 41 #[.string ⟨(b :: t).toArray⟩] w fun e w' => RunR (b :: t) e ∧ Upto [] w w' := by
  have hu0 : Upto [] w (w.alloc (.cells #[.int .i64 0, .string ⟨#[]⟩, .int .i64 0, .int .i64 0, .int .i64 0] 80)) := (Upto.refl [] w).alloc _
  have HW := Lib.hid (isWord_calls (b :: t) (w.alloc (.cells #[.int .i64 0, .string ⟨#[]⟩, .int .i64 0, .int .i64 0, .int .i64 0] 80)))
  have HN := Lib.hid (numberR_calls b t (w.alloc (.cells #[.int .i64 0, .string ⟨#[]⟩, .int .i64 0, .int .i64 0, .int .i64 0] 80)) hl)
  have HD := Lib.hid digitR_calls
  have HT := Lib.hid letterR_calls
  have hsz : (ByteArray.mk (b :: t).toArray).size = (b :: t).length := rfl
  have hat := str_at (s := b :: t) (k := 0) (b := b) rfl
  have hpos : (0 : Int) < (b :: t).length := by simp only [List.length_cons]; omega
  cases hd : lxDigit b with
  | true =>
    have HH := Lib.hid hd
    have HF := Lib.hid (RunR.num (t := t) hd)
    generalize (numF (b :: t)).1 = nv at *
    generalize (numF (b :: t)).2 = ne at *
    generalize b :: t = s at *
    clear HW HT
    go_enter Tryd.func41, Tryd.ntmps41
    go_wp2_with fail
    refine (HD.out _ _).mono ?_
    rintro e w1 ⟨rfl, rfl⟩
    rw [HH.out]
    go_wp2_with fail
    refine HN.out.mono ?_
    rintro e w2 ⟨rfl, rfl⟩
    go_wp2_with fail
    obtain ⟨q0, q1, q2, q3, q4⟩ := tok_cells w (.int .i64 2) (.string ⟨s.toArray⟩) (.int .i64 nv) (.int .i64 0) (.int .i64 0) 80
    refine bodyPost_ret (v := .tuple #[.agg #[.int .i64 2, .string ⟨s.toArray⟩, .int .i64 nv, .int .i64 0, .int .i64 0], .int .i64 ne]) (by simp [results, Tryd.results41, go_sem, q0, q1, q2, q3, q4]) rfl ⟨?_, (Upto.refl _ _).alloc _⟩
    exact HF.out
  | false =>
    have HH := Lib.hid hd
    cases hlt : lxLetter b with
    | false =>
      have HJ := Lib.hid hlt
      have hc : classify (b :: t) = .error 3 := by simp only [classify, hd, hlt, Bool.false_eq_true, if_false, if_true, Bool.not_false]
      have HC := Lib.hid hc
      generalize b :: t = s at *
      clear hc HW HN
      go_enter Tryd.func41, Tryd.ntmps41
      go_wp2_with fail
      refine (HD.out _ _).mono ?_
      rintro e w1 ⟨rfl, rfl⟩
      rw [HH.out]
      go_wp2_with fail
      refine (HT.out _ _).mono ?_
      rintro e w1 ⟨rfl, rfl⟩
      rw [HJ.out]
      go_wp2_with fail
      obtain ⟨q0, q1, q2, q3, q4⟩ := tok_cells w (.int .i64 0) (.string ⟨#[]⟩) (.int .i64 0) (.int .i64 0) (.int .i64 0) 80
      refine bodyPost_ret (v := .tuple #[.agg #[.int .i64 0, .string ⟨#[]⟩, .int .i64 0, .int .i64 0, .int .i64 0], .int .i64 3]) (by simp [results, Tryd.results41, go_sem, q0, q1, q2, q3, q4]) rfl ⟨?_, (Upto.refl _ _).alloc _⟩
      exact RunR.bad (by decide) HC.out
    | true =>
      have HJ := Lib.hid hlt
      have hcl : classify (b :: t) = if lxWords.contains (b :: t) then .ok (3, 0) else if 16 < (b :: t).length then .error 2 else .ok (1, 0) := by simp only [classify, hd, hlt, Bool.false_eq_true, if_false, Bool.not_true]
      have HC := Lib.hid hcl
      cases hw : lxWords.contains (b :: t) with
      | true =>
        have HQ := Lib.hid hw
        generalize b :: t = s at *
        clear hcl hw HN
        go_enter Tryd.func41, Tryd.ntmps41
        go_wp2_with fail
        refine (HD.out _ _).mono ?_
        rintro e w1 ⟨rfl, rfl⟩
        rw [HH.out]
        go_wp2_with fail
        refine (HT.out _ _).mono ?_
        rintro e w1 ⟨rfl, rfl⟩
        rw [HJ.out]
        go_wp2_with fail
        refine HW.out.mono ?_
        rintro e w2 ⟨rfl, hu2⟩
        rw [HQ.out]
        have hb2 := hu2.at (new_at w (.cells #[.int .i64 0, .string ⟨#[]⟩, .int .i64 0, .int .i64 0, .int .i64 0] 80)) (by simp)
        have huw := hu0.trans_ext hu2
        clear hu0 hu2
        generalize hB : w.heap.size = B at *
        have q0 := cell_of hb2 0
        have q1 := cell_of hb2 1
        have q2 := cell_of hb2 2
        have q3 := cell_of hb2 3
        have q4 := cell_of hb2 4
        have f0 := free_of hb2 0
        have f1 := free_of hb2 1
        have f2 := free_of hb2 2
        have f3 := free_of hb2 3
        have f4 := free_of hb2 4
        simp only [List.getElem?_toArray, List.getElem?_cons_zero, List.getElem?_cons_succ] at q0 q1 q2 q3 q4
        clear HD HT HW
        go_wp2_with fail
        refine bodyPost_ret (v := .tuple #[.agg #[.int .i64 3, .string ⟨s.toArray⟩, .int .i64 0, .int .i64 0, .int .i64 0], .int .i64 0]) (by simp [results, Tryd.results41, go_sem, q0, q1, q2, q3, q4]) rfl ⟨RunR.ok (by rw [HC.out, HQ.out]; rfl), ?_⟩
        have hin : w.heap.size ≤ B := by omega
        exact ((((huw.setCell (Or.inr hin) _).setCell (Or.inr hin) _).setCell (Or.inr hin) _).setCell (Or.inr hin) _).setCell (Or.inr hin) _
      | false =>
        have HQ := Lib.hid hw
        by_cases h16 : 16 < (b :: t).length
        · have h16' : (16 : Int) < (b :: t).length := by omega
          generalize b :: t = s at *
          clear hcl hw HN
          go_enter Tryd.func41, Tryd.ntmps41
          go_wp2_with fail
          refine (HD.out _ _).mono ?_
          rintro e w1 ⟨rfl, rfl⟩
          rw [HH.out]
          go_wp2_with fail
          refine (HT.out _ _).mono ?_
          rintro e w1 ⟨rfl, rfl⟩
          rw [HJ.out]
          go_wp2_with fail
          refine HW.out.mono ?_
          rintro e w2 ⟨rfl, hu2⟩
          rw [HQ.out]
          have hb2 := hu2.at (new_at w (.cells #[.int .i64 0, .string ⟨#[]⟩, .int .i64 0, .int .i64 0, .int .i64 0] 80)) (by simp)
          have huw := hu0.trans_ext hu2
          clear hu0 hu2
          generalize hB : w.heap.size = B at *
          have q0 := cell_of hb2 0
          have q1 := cell_of hb2 1
          have q2 := cell_of hb2 2
          have q3 := cell_of hb2 3
          have q4 := cell_of hb2 4
          have f0 := free_of hb2 0
          have f1 := free_of hb2 1
          have f2 := free_of hb2 2
          have f3 := free_of hb2 3
          have f4 := free_of hb2 4
          simp only [List.getElem?_toArray, List.getElem?_cons_zero, List.getElem?_cons_succ] at q0 q1 q2 q3 q4
          clear HD HT HW
          go_wp2_with fail
          refine bodyPost_ret (v := .tuple #[.agg #[.int .i64 0, .string ⟨#[]⟩, .int .i64 0, .int .i64 0, .int .i64 0], .int .i64 2]) (by simp [results, Tryd.results41, go_sem, q0, q1, q2, q3, q4]) rfl ⟨RunR.bad (n := 2) (by decide) (by rw [HC.out, HQ.out, if_neg (by simp), if_pos h16]), ?_⟩
          have hin : w.heap.size ≤ B := by omega
          exact ((((huw.setCell (Or.inr hin) _).setCell (Or.inr hin) _).setCell (Or.inr hin) _).setCell (Or.inr hin) _).setCell (Or.inr hin) _
        · have h16' : ¬ (16 : Int) < (b :: t).length := by omega
          generalize b :: t = s at *
          clear hcl hw HN
          go_enter Tryd.func41, Tryd.ntmps41
          go_wp2_with fail
          refine (HD.out _ _).mono ?_
          rintro e w1 ⟨rfl, rfl⟩
          rw [HH.out]
          go_wp2_with fail
          refine (HT.out _ _).mono ?_
          rintro e w1 ⟨rfl, rfl⟩
          rw [HJ.out]
          go_wp2_with fail
          refine HW.out.mono ?_
          rintro e w2 ⟨rfl, hu2⟩
          rw [HQ.out]
          have hb2 := hu2.at (new_at w (.cells #[.int .i64 0, .string ⟨#[]⟩, .int .i64 0, .int .i64 0, .int .i64 0] 80)) (by simp)
          have huw := hu0.trans_ext hu2
          clear hu0 hu2
          generalize hB : w.heap.size = B at *
          have q0 := cell_of hb2 0
          have q1 := cell_of hb2 1
          have q2 := cell_of hb2 2
          have q3 := cell_of hb2 3
          have q4 := cell_of hb2 4
          have f0 := free_of hb2 0
          have f1 := free_of hb2 1
          have f2 := free_of hb2 2
          have f3 := free_of hb2 3
          have f4 := free_of hb2 4
          simp only [List.getElem?_toArray, List.getElem?_cons_zero, List.getElem?_cons_succ] at q0 q1 q2 q3 q4
          clear HD HT HW
          go_wp2_with fail
          refine bodyPost_ret (v := .tuple #[.agg #[.int .i64 1, .string ⟨s.toArray⟩, .int .i64 0, .int .i64 0, .int .i64 0], .int .i64 0]) (by simp [results, Tryd.results41, go_sem, q0, q1, q2, q3, q4]) rfl ⟨RunR.ok (k := 1) (v := 0) (by rw [HC.out, HQ.out, if_neg (by simp), if_neg h16]), ?_⟩
          have hin : w.heap.size ≤ B := by omega
          exact ((((huw.setCell (Or.inr hin) _).setCell (Or.inr hin) _).setCell (Or.inr hin) _).setCell (Or.inr hin) _).setCell (Or.inr hin) _

set_option maxRecDepth 100000 in
set_option maxHeartbeats 1600000 in
/-- the reference's run -/
theorem runR_calls (s : List UInt8) (i : Nat) (hi : i ≤ s.length) (hl : s.length ≤ 4611686018427387904) (w : World) :
    Calls Tryd.prog 40 #[.string ⟨s.toArray⟩, .int .i64 i] w fun e w' => e = .returned (.int .i64 ((s.drop i).takeWhile lxInner).length) ∧ w' = w := by
  have HI := Lib.hid innerR_calls
  have hsz : (ByteArray.mk s.toArray).size = s.length := rfl
  obtain ⟨W0, hW0⟩ : ∃ W0, W0 = w := ⟨_, rfl⟩
  rw [← hW0]
  clear hW0
  go_enter Tryd.func40, Tryd.ntmps40
  go_wp2_with fail
  go_loopw [5] (fun j wr => ∃ k : Nat, i + k ≤ s.length ∧ j = .int .i64 k ∧ ((s.drop i).takeWhile lxInner).length = k + ((s.drop (i + k)).takeWhile lxInner).length ∧ wr = W0) (fun j _ => s.length - (intOf j).toNat)
  case atStart => exact ⟨0, by omega, rfl, by simp, rfl⟩
  case round =>
    obtain ⟨k, hk, rfl, he, hw0⟩ := hrel
    have hw1 := hw0.symm
    subst hw1
    have HE := Lib.hid he
    clear he
    rcases Nat.lt_or_ge (i + k) s.length with hlt | hge
    · obtain ⟨b, hb⟩ : ∃ b, s[i + k]? = some b := ⟨s[i + k], List.getElem?_eq_getElem hlt⟩
      have hat := str_at hb
      have HB := Lib.hid hb
      clear hb
      have hlt' : (i : Int) + k < s.length := by omega
      have hnn : (0 : Int) ≤ (i : Int) + k := by omega
      have htn : ((i : Int) + k).toNat = i + k := by omega
      go_wp2_with fail
      refine (HI.out _ _).mono ?_
      rintro e w1 ⟨rfl, rfl⟩
      cases hp : lxInner b with
      | true =>
        go_wp2_with fail
        go_roundw
        case rel => exact ⟨k + 1, by omega, by go_num, by rw [HE.out, take_step HB.out hp, Nat.add_assoc i k 1]; omega, trivial⟩
        case measure => simp [intOf]; omega
      | false =>
        go_wp2_with fail
        go_ret
        refine ⟨ret_int ?_, rfl⟩
        rw [HE.out, take_stop HB.out hp]
        omega
    · have hge' : ¬ (i : Int) + k < s.length := by omega
      go_wp2_with fail
      go_ret
      refine ⟨ret_int ?_, rfl⟩
      rw [HE.out, List.drop_eq_nil_of_le hge]
      simp
end Go.Proofs.YtkhbpebpljdifaaDoor
