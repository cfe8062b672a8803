/- The lexer's and the reference's number. -/
import Derived.Test.YtkhbpebpljdifaaDoorNum
import Derived.Lib.AppendIntMem
namespace Go.Proofs.YtkhbpebpljdifaaDoor
open Go.RowKit Go.PL Go.Maps

/-- value and error of a run as a number -/
def numF (s : List UInt8) : Nat × Nat :=
  if !(s.all lxDigit) || (decide (1 < s.length) && decide ((s.headD 0).toNat = 48)) then (0, 3)
  else if 2147483647 < lxNum s then (0, 2) else (lxNum s, 0)

theorem take_all {p : UInt8 → Bool} {s : List UInt8} (h : s.all p = true) : s.takeWhile p = s := by
  induction s with
  | nil => rfl
  | cons b s ih =>
    simp only [List.all_cons, Bool.and_eq_true] at h
    rw [List.takeWhile_cons, if_pos h.1, ih h.2]
theorem take_not {p : UInt8 → Bool} {s : List UInt8} (h : s.all p = false) : (s.takeWhile p).length < s.length := by
  induction s with
  | nil => simp at h
  | cons b s ih =>
    rw [List.takeWhile_cons]
    cases hb : p b with
    | true =>
      rw [List.all_cons, hb, Bool.true_and] at h
      have := ih h
      simp
      omega
    | false => simp
theorem lxNum_append (a b : List UInt8) : lxNum (a ++ b) = lxNum a * 10 ^ b.length + lxNum b := by
  show (a ++ b).foldl _ 0 = _
  rw [List.foldl_append, lxNum_fold]
  rfl
theorem lxNum_take_le (s : List UInt8) (k : Nat) : lxNum (s.take k) ≤ lxNum s := by
  have h := lxNum_append (s.take k) (s.drop k)
  rw [List.take_append_drop] at h
  rw [h]
  have hp : 1 ≤ 10 ^ (s.drop k).length := Nat.pos_of_ne_zero (by simp)
  have : lxNum (s.take k) * 1 ≤ lxNum (s.take k) * 10 ^ (s.drop k).length := Nat.mul_le_mul_left _ hp
  omega
theorem lxNum_snoc {s : List UInt8} {k : Nat} {x : UInt8} (h : s[k]? = some x) : lxNum (s.take (k + 1)) = 10 * lxNum (s.take k) + (x.toNat - 48) := by
  obtain ⟨h1, h2⟩ := List.getElem?_eq_some_iff.1 h
  rw [List.take_succ_eq_append_getElem h1, h2, lxNum_append]
  simp [lxNum]
  omega
theorem take_snoc' {s : List UInt8} {k : Nat} {x : UInt8} (h : s[k]? = some x) : s.take (k + 1) = s.take k ++ [x] := by
  obtain ⟨h1, h2⟩ := List.getElem?_eq_some_iff.1 h
  rw [List.take_succ_eq_append_getElem h1, h2]
theorem digit_bounds {x : UInt8} (h : lxDigit x = true) : 48 ≤ x.toNat ∧ x.toNat ≤ 57 := by simpa [lxDigit] using h
theorem all_at {p : UInt8 → Bool} {s : List UInt8} (h : s.all p = true) {k : Nat} {x : UInt8} (hx : s[k]? = some x) : p x = true := List.all_eq_true.1 h x (List.mem_of_getElem? hx)

/-- the world's facts that the lexer leans on -/
structure Env (w : World) : Prop where
  tab : Lib.TabIs Tryd.prog w "strings.asciiSpace" .u8 Lib.asciiSpaceTab
  rng : ∃ te pe, w.cell? ⟨5, 0, none⟩ = some (.iface te pe)

theorem Env.ext {w w' : World} (h : Env w) (hu : Upto [] w w') : Env w' := by
  obtain ⟨te, pe, hr⟩ := h.rng
  refine ⟨?_, ⟨te, pe, (hu.cell (World.block_lt_of_cell? w _ hr) (by simp)).trans hr⟩⟩
  exact Lib.tabBelow_of_tabIs h.tab w' hu.ext

set_option maxRecDepth 100000 in
set_option maxHeartbeats 1600000 in
theorem number_calls (b : UInt8) (t : List UInt8) (w : World) (hl : (b :: t).length ≤ 281474976710656) (he : Env w) :
    Calls Tryd.prog 60 #[.string ⟨(b :: t).toArray⟩] w fun e w' => e = .returned (.tuple #[.int .i64 (numF (b :: t)).1, .int .i64 (numF (b :: t)).2]) ∧ Upto [] w w' := by
  have HC := Lib.hid (cut_calls 59 lxDigit (run_enter Tryd.func59 (by kernel_rfl) rfl) digit_calls (b :: t) (by omega))
  obtain ⟨te, pe, hr⟩ := he.rng
  have hsz : (ByteArray.mk (b :: t).toArray).size = (b :: t).length := rfl
  have hF := Lib.hid (show numF (b :: t) = if !((b :: t).all lxDigit) || (decide (1 < (b :: t).length) && decide (b.toNat = 48)) then (0, 3) else if 2147483647 < lxNum (b :: t) then (0, 2) else (lxNum (b :: t), 0) from rfl)
  have hat := str_at (s := b :: t) (k := 0) (b := b) rfl
  have hpos : 0 < (b :: t).length := by simp
  cases ha : (b :: t).all lxDigit with
  | false =>
    have hlt := take_not ha
    rw [ha] at hF
    simp only [Bool.not_false, Bool.true_or, if_true] at hF
    have HA : Hid (∀ w, Calls Tryd.prog 36 #[.string ⟨(b :: t).toArray⟩, .func (.func 59) #[] #[]] w fun e w' => e = .returned (.int .i64 ((b :: t).takeWhile lxDigit).length) ∧ w' = w) := HC
    generalize ((b :: t).takeWhile lxDigit).length = n at *
    generalize b :: t = s at *
    have hlt' : (n : Int) < s.length := by omega
    clear HC ha
    go_enter Tryd.func60, Tryd.ntmps60
    go_wp2_with fail
    refine (HA.out _).mono ?_
    rintro e w1 ⟨rfl, rfl⟩
    go_wp2_with fail
    go_ret2
    rw [hF.out]
    exact ⟨rfl, Upto.refl _ _⟩
  | true =>
    rw [ha] at hF
    have hd0 := all_at ha (k := 0) rfl
    simp only [take_all ha] at HC
    have HP := Lib.hid (parse86 (b :: t) (by simp) hl (fun x hx => List.all_eq_true.1 ha x hx) te pe)
    have HN := Lib.hid (show numF (b :: t) = _ from rfl)
    by_cases h48 : 1 < (b :: t).length ∧ b.toNat = 48
    · obtain ⟨h1, h2⟩ := h48
      simp only [h1, h2, decide_true, Bool.and_self, Bool.or_true, if_true] at hF
      generalize b :: t = s at *
      have h1' : (1 : Int) < s.length := by omega
      have h2' : ((b.toNat : Int) == 48) = true := by simp [h2]
      clear HP HN h2 ha
      go_enter Tryd.func60, Tryd.ntmps60
      go_wp2_with fail
      refine (HC.out _).mono ?_
      rintro e w1 ⟨rfl, rfl⟩
      go_wp2_with fail
      go_ret2
      rw [hF.out]
      exact ⟨rfl, Upto.refl _ _⟩
    · have hz : (decide (1 < (b :: t).length) && decide (b.toNat = 48)) = false := by
        rw [Bool.and_eq_false_iff]
        by_cases h1 : 1 < (b :: t).length
        · exact Or.inr (decide_eq_false fun h => h48 ⟨h1, h⟩)
        · exact Or.inl (decide_eq_false h1)
      simp only [hz, Bool.not_true, Bool.or_self, Bool.false_eq_true, if_false] at hF
      have hor : ¬ (1 : Int) < (b :: t).length ∨ (1 : Int) < (b :: t).length ∧ ((b.toNat : Int) == 48) = false := by
        by_cases h1 : 1 < (b :: t).length
        · refine Or.inr ⟨by omega, ?_⟩
          rw [beq_eq_false_iff_ne]
          exact fun h => h48 ⟨h1, by omega⟩
        · exact Or.inl (by omega)
      generalize b :: t = s at *
      clear HN hz h48 ha
      rcases hor with hor | ⟨hor, hb48⟩
      all_goals
        go_enter Tryd.func60, Tryd.ntmps60
        go_wp2_with fail
        refine (HC.out _).mono ?_
        rintro e w1 ⟨rfl, rfl⟩
        go_wp2_with fail
        refine (HP.out _ hr).mono ?_
        rintro e w2 ⟨hu, ⟨hn, rfl⟩ | ⟨hn, N, rfl⟩⟩
        · rw [if_neg (by omega)] at hF
          go_wp2_with fail
          go_ret2
          rw [hF.out]
          exact ⟨rfl, hu⟩
        · rw [if_pos hn] at hF
          go_wp2_with fail
          go_ret2
          rw [hF.out]
          exact ⟨rfl, hu⟩

set_option maxRecDepth 100000 in
set_option maxHeartbeats 1600000 in
theorem numberR_calls (b : UInt8) (t : List UInt8) (w : World) (hl : (b :: t).length ≤ 281474976710656) :
    Calls Tryd.prog 63 #[.string ⟨(b :: t).toArray⟩] w fun e w' => e = .returned (.tuple #[.int .i64 (numF (b :: t)).1, .int .i64 (numF (b :: t)).2]) ∧ w' = w := by
  have HD := Lib.hid digitR_calls
  have hsz : (ByteArray.mk (b :: t).toArray).size = (b :: t).length := rfl
  have hF := Lib.hid (show numF (b :: t) = if !((b :: t).all lxDigit) || (decide (1 < (b :: t).length) && decide (b.toNat = 48)) then (0, 3) else if 2147483647 < lxNum (b :: t) then (0, 2) else (lxNum (b :: t), 0) from rfl)
  have hat0 := str_at (s := b :: t) (k := 0) (b := b) rfl
  have hpos : 0 < (b :: t).length := by simp
  generalize b :: t = s at *
  obtain ⟨W0, hW0⟩ : ∃ W0, W0 = w := ⟨_, rfl⟩
  rw [← hW0]
  clear hW0
  go_enter Tryd.func63, Tryd.ntmps63
  go_wp2_with fail
  go_loopw [4] (fun i wr => ∃ k : Nat, k ≤ s.length ∧ i = .int .i64 k ∧ Hid (∀ x ∈ s.take k, lxDigit x = true) ∧ wr = W0) (fun i _ => s.length - (intOf i).toNat)
  case atStart => exact ⟨0, Nat.zero_le _, rfl, Lib.hid (by simp), rfl⟩
  case round =>
    obtain ⟨k, hk, rfl, HT, hw0⟩ := hrel
    have hw1 := hw0.symm
    subst hw1
    rcases Nat.lt_or_ge k s.length with hlt | hge
    · obtain ⟨x, hx⟩ : ∃ x, s[k]? = some x := ⟨s[k], List.getElem?_eq_getElem hlt⟩
      have hat := str_at hx
      have hlt' : (k : Int) < s.length := by omega
      have HX := Lib.hid hx
      clear hx
      go_wp2_with fail
      refine (HD.out _ _).mono ?_
      rintro e w1 ⟨rfl, rfl⟩
      cases hd : lxDigit x with
      | true =>
        go_wp2_with fail
        go_roundw
        case rel =>
          refine ⟨k + 1, by omega, by go_num, Lib.hid ?_, trivial⟩
          rw [take_snoc' HX.out]
          intro y hy
          rcases List.mem_append.1 hy with hy | hy
          · exact HT.out y hy
          · rw [List.mem_singleton.1 hy]; exact hd
        case measure => simp [intOf]; omega
      | false =>
        go_wp2_with fail
        go_ret2
        have ha : s.all lxDigit = false := by
          cases h : s.all lxDigit with
          | false => rfl
          | true => rw [all_at h HX.out] at hd; cases hd
        rw [hF.out, ha]
        exact ⟨rfl, rfl⟩
    · have hge' : ¬ (k : Int) < s.length := by omega
      have hks : k = s.length := by omega
      have ha : s.all lxDigit = true := List.all_eq_true.2 (by have := HT.out; rwa [List.take_of_length_le hge] at this)
      have hF2 := hF.out
      rw [ha] at hF2
      have H0 := Lib.hid hat0
      clear HT hat0
      by_cases h48 : 1 < s.length ∧ b.toNat = 48
      · obtain ⟨h1, h2⟩ := h48
        have h1' : (1 : Int) < s.length := by omega
        have h2' : ((b.toNat : Int) == 48) = true := by simp [h2]
        simp only [h1, h2, decide_true, Bool.and_self, Bool.or_true, if_true] at hF2
        have HF := Lib.hid hF2
        clear hF2 hF h2 ha
        have hat0 := H0.out
        go_wp2_with fail
        go_ret2
        rw [HF.out]
        exact ⟨rfl, rfl⟩
      · have hz : (decide (1 < s.length) && decide (b.toNat = 48)) = false := by
          rw [Bool.and_eq_false_iff]
          by_cases h1 : 1 < s.length
          · exact Or.inr (decide_eq_false fun h => h48 ⟨h1, h⟩)
          · exact Or.inl (decide_eq_false h1)
        simp only [hz, Bool.not_true, Bool.or_self, Bool.false_eq_true, if_false] at hF2
        have hor : ¬ (1 : Int) < s.length ∨ (1 : Int) < s.length ∧ ((b.toNat : Int) == 48) = false := by
          by_cases h1 : 1 < s.length
          · refine Or.inr ⟨by omega, ?_⟩
            rw [beq_eq_false_iff_ne]
            exact fun h => h48 ⟨h1, by omega⟩
          · exact Or.inl (by omega)
        have HF := Lib.hid hF2
        have HA := Lib.hid ha
        clear hF2 hF hz h48 ha
        have hat0 := H0.out
        rcases hor with hor | ⟨hor, hb48⟩
        all_goals
          go_wp2_with fail
          clear hat0 hor hge' hks hk hge
          go_loopw [5, 6] (fun n i wr => ∃ k : Nat, k ≤ s.length ∧ i = .int .i64 k ∧ n = .int .i64 (lxNum (s.take k) : Nat) ∧ lxNum (s.take k) ≤ 2147483647 ∧ wr = W0) (fun _ i _ => s.length - (intOf i).toNat)
          case atStart => exact ⟨0, Nat.zero_le _, rfl, by simp [lxNum], by simp [lxNum], rfl⟩
          case round =>
            obtain ⟨k, hk, rfl, rfl, hm, hw0⟩ := hrel
            have hw1 := hw0.symm
            subst hw1
            rcases Nat.lt_or_ge k s.length with hlt | hge
            · obtain ⟨x, hx⟩ : ∃ x, s[k]? = some x := ⟨s[k], List.getElem?_eq_getElem hlt⟩
              have hat := str_at hx
              have hlt' : (k : Int) < s.length := by omega
              have hd := digit_bounds (all_at HA.out hx)
              have hs := Lib.hid (lxNum_snoc hx)
              have hle := Lib.hid (lxNum_take_le s (k + 1))
              clear hx
              generalize lxNum (s.take k) = m at *
              have d1 : (48 : Int) ≤ x.toNat := by omega
              have d2 : (x.toNat : Int) ≤ 57 := by omega
              have d3 : (m : Int) ≤ 2147483647 := by omega
              have d4 : (0 : Int) ≤ m := by omega
              by_cases hov : 2147483647 < 10 * m + (x.toNat - 48)
              · have hov' : (2147483647 : Int) < 10 * m + x.toNat - 48 := by omega
                go_wp2_with fail
                go_ret2
                rw [HF.out, if_pos (by have := hs.out; have := hle.out; omega)]
                exact ⟨rfl, rfl⟩
              · have hov' : ¬ (2147483647 : Int) < 10 * m + x.toNat - 48 := by omega
                go_wp2_with fail
                go_roundw
                case rel => exact ⟨k + 1, by omega, by go_num, by rw [hs.out]; go_num, by rw [hs.out]; omega, trivial⟩
                case measure => simp [intOf]; omega
            · have hge' : ¬ (k : Int) < s.length := by omega
              have hts : s.take k = s := List.take_of_length_le hge
              rw [hts] at hm ⊢
              go_wp2_with fail
              go_ret2
              rw [HF.out, if_neg (by omega)]
              exact ⟨rfl, rfl⟩
end Go.Proofs.YtkhbpebpljdifaaDoor
