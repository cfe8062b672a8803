/- The lexer's tests of a byte. -/
import Derived.Test.YtkhbpebpljdifaaDoorProg
import Derived.Test.YtkhbpebpljdifaaDoorTk
import Derived.Test.YtkhbpebpljdifaaDoorExt
import Derived.Test.YtkhbpebpljdifaaDoorShelf
import Derived.BigQuiet
import Derived.Deep.DeepCutAuto
import Derived.Deep.CutBlock
namespace Go.Proofs.YtkhbpebpljdifaaDoor
open Go.RowKit Go.PL Go.Maps

/-- a byte as a value -/
def by8 (b : UInt8) : Value := .int .u8 b.toNat


set_option maxRecDepth 100000 in
set_option maxHeartbeats 800000 in
theorem digit_calls (b : UInt8) (w : World) : Calls Tryd.prog 59 #[.int .u8 b.toNat] w fun e w' => e = .returned (.bool (lxDigit b)) ∧ w' = w := by
  have h := Lib.hid (show lxDigit b = (decide (48 ≤ b.toNat) && decide (b.toNat ≤ 57)) from rfl)
  generalize lxDigit b = r at *
  generalize b.toNat = n at *
  go_enter Tryd.func59, Tryd.ntmps59
  go_wp2
  all_goals
    go_ret
    refine ⟨ret_bool ?_, rfl⟩
    rw [h.out, Bool.eq_iff_iff]
    simp only [Bool.and_eq_true, Bool.or_eq_true, decide_eq_true_eq, Bool.false_eq_true, beq_iff_eq, true_iff, false_iff, not_and, not_or, iff_true, iff_false]
    omega

set_option maxRecDepth 100000 in
set_option maxHeartbeats 800000 in
theorem letter_calls (b : UInt8) (w : World) : Calls Tryd.prog 58 #[.int .u8 b.toNat] w fun e w' => e = .returned (.bool (lxLetter b)) ∧ w' = w := by
  have h := Lib.hid (show lxLetter b = ((decide (97 ≤ b.toNat) && decide (b.toNat ≤ 122)) || (decide (65 ≤ b.toNat) && decide (b.toNat ≤ 90))) from rfl)
  generalize lxLetter b = r at *
  generalize b.toNat = n at *
  go_enter Tryd.func58, Tryd.ntmps58
  go_wp2
  all_goals
    go_ret
    refine ⟨ret_bool ?_, rfl⟩
    rw [h.out, Bool.eq_iff_iff]
    simp only [Bool.and_eq_true, Bool.or_eq_true, decide_eq_true_eq, Bool.false_eq_true, beq_iff_eq, true_iff, false_iff, not_and, not_or, iff_true, iff_false]
    omega

set_option maxRecDepth 100000 in
set_option maxHeartbeats 800000 in
theorem digitR_calls (b : UInt8) (w : World) : Calls Tryd.prog 62 #[.int .u8 b.toNat] w fun e w' => e = .returned (.bool (lxDigit b)) ∧ w' = w := by
  have h := Lib.hid (show lxDigit b = (decide (48 ≤ b.toNat) && decide (b.toNat ≤ 57)) from rfl)
  generalize lxDigit b = r at *
  generalize b.toNat = n at *
  go_enter Tryd.func62, Tryd.ntmps62
  go_wp2
  all_goals
    go_ret
    refine ⟨ret_bool ?_, rfl⟩
    rw [h.out, Bool.eq_iff_iff]
    simp only [Bool.and_eq_true, Bool.or_eq_true, decide_eq_true_eq, Bool.false_eq_true, beq_iff_eq, true_iff, false_iff, not_and, not_or, iff_true, iff_false]
    omega

set_option maxRecDepth 100000 in
set_option maxHeartbeats 800000 in
theorem letterR_calls (b : UInt8) (w : World) : Calls Tryd.prog 61 #[.int .u8 b.toNat] w fun e w' => e = .returned (.bool (lxLetter b)) ∧ w' = w := by
  have h := Lib.hid (show lxLetter b = ((decide (97 ≤ b.toNat) && decide (b.toNat ≤ 122)) || (decide (65 ≤ b.toNat) && decide (b.toNat ≤ 90))) from rfl)
  generalize lxLetter b = r at *
  generalize b.toNat = n at *
  go_enter Tryd.func61, Tryd.ntmps61
  go_wp2
  all_goals
    go_ret
    refine ⟨ret_bool ?_, rfl⟩
    rw [h.out, Bool.eq_iff_iff]
    simp only [Bool.and_eq_true, Bool.or_eq_true, decide_eq_true_eq, Bool.false_eq_true, beq_iff_eq, true_iff, false_iff, not_and, not_or, iff_true, iff_false]
    omega

set_option maxRecDepth 100000 in
set_option maxHeartbeats 800000 in
theorem blankR_calls (b : UInt8) (w : World) : Calls Tryd.prog 38 #[.int .u8 b.toNat] w fun e w' => e = .returned (.bool (lxBlank b)) ∧ w' = w := by
  have h := Lib.hid (show lxBlank b = (decide (b.toNat = 9) || decide (b.toNat = 10) || decide (b.toNat = 13) || decide (b.toNat = 32)) from rfl)
  generalize lxBlank b = r at *
  generalize b.toNat = n at *
  go_enter Tryd.func38, Tryd.ntmps38
  go_wp2
  all_goals
    go_ret
    refine ⟨ret_bool ?_, rfl⟩
    rw [h.out, Bool.eq_iff_iff]
    simp only [Bool.and_eq_true, Bool.or_eq_true, decide_eq_true_eq, Bool.false_eq_true, beq_iff_eq, true_iff, false_iff, not_and, not_or, iff_true, iff_false]
    omega

set_option maxRecDepth 100000 in
set_option maxHeartbeats 800000 in
theorem markR_calls (b : UInt8) (w : World) : Calls Tryd.prog 42 #[.int .u8 b.toNat] w fun e w' => e = .returned (.bool (lxMark b)) ∧ w' = w := by
  have h := Lib.hid (show lxMark b = (decide (b.toNat = 61) || decide (b.toNat = 40) || decide (b.toNat = 41) || decide (b.toNat = 44) || decide (b.toNat = 58) || decide (b.toNat = 59)) from rfl)
  generalize lxMark b = r at *
  generalize b.toNat = n at *
  go_enter Tryd.func42, Tryd.ntmps42
  go_wp2
  all_goals
    go_ret
    refine ⟨ret_bool ?_, rfl⟩
    rw [h.out, Bool.eq_iff_iff]
    simp only [Bool.and_eq_true, Bool.or_eq_true, decide_eq_true_eq, Bool.false_eq_true, beq_iff_eq, true_iff, false_iff, not_and, not_or, iff_true, iff_false]
    omega

set_option maxRecDepth 100000 in
set_option maxHeartbeats 800000 in
theorem inner_calls (b : UInt8) (w : World) : Calls Tryd.prog 35 #[.int .u8 b.toNat] w fun e w' => e = .returned (.bool (lxInner b)) ∧ w' = w := by
  have HL := Lib.hid letter_calls
  have HD := Lib.hid digit_calls
  have h := Lib.hid (show lxInner b = (lxLetter b || lxDigit b || decide (b.toNat = 39)) from rfl)
  go_enter Tryd.func35, Tryd.ntmps35
  go_wp2_with fail
  refine (HL.out _ _).mono ?_
  rintro e w1 ⟨rfl, rfl⟩
  cases hl : lxLetter b with
  | true =>
    go_wp2_with fail
    go_ret
    refine ⟨ret_bool ?_, rfl⟩
    rw [h.out, hl]
    rfl
  | false =>
    go_wp2_with fail
    refine (HD.out _ _).mono ?_
    rintro e w1 ⟨rfl, rfl⟩
    cases hd : lxDigit b with
    | true =>
      go_wp2_with fail
      go_ret
      refine ⟨ret_bool ?_, rfl⟩
      rw [h.out, hl, hd]
      rfl
    | false =>
      go_wp2_with fail
      go_ret
      refine ⟨ret_bool ?_, rfl⟩
      rw [h.out, hl, hd, Bool.eq_iff_iff]
      simp only [Bool.false_or, decide_eq_true_eq, beq_iff_eq]
      omega

set_option maxRecDepth 100000 in
set_option maxHeartbeats 800000 in
theorem innerR_calls (b : UInt8) (w : World) : Calls Tryd.prog 39 #[.int .u8 b.toNat] w fun e w' => e = .returned (.bool (lxInner b)) ∧ w' = w := by
  have HL := Lib.hid letterR_calls
  have HD := Lib.hid digitR_calls
  have h := Lib.hid (show lxInner b = (lxLetter b || lxDigit b || decide (b.toNat = 39)) from rfl)
  go_enter Tryd.func39, Tryd.ntmps39
  go_wp2_with fail
  refine (HL.out _ _).mono ?_
  rintro e w1 ⟨rfl, rfl⟩
  cases hl : lxLetter b with
  | true =>
    go_wp2_with fail
    go_ret
    refine ⟨ret_bool ?_, rfl⟩
    rw [h.out, hl]
    rfl
  | false =>
    go_wp2_with fail
    refine (HD.out _ _).mono ?_
    rintro e w1 ⟨rfl, rfl⟩
    cases hd : lxDigit b with
    | true =>
      go_wp2_with fail
      go_ret
      refine ⟨ret_bool ?_, rfl⟩
      rw [h.out, hl, hd]
      rfl
    | false =>
      go_wp2_with fail
      go_ret
      refine ⟨ret_bool ?_, rfl⟩
      rw [h.out, hl, hd, Bool.eq_iff_iff]
      simp only [Bool.false_or, decide_eq_true_eq, beq_iff_eq]
      omega

theorem byte_back (b : UInt8) : (b.toNat : Int).toNat.toUInt8 = b := by simp
theorem contains_idx (l : List UInt8) (b : UInt8) : decide (0 ≤ Go.Lib.indexByte l b) = l.contains b := by
  induction l with
  | nil => rfl
  | cons c l ih =>
    have hge := Go.Lib.indexByte_ge l b
    rw [List.contains_cons, ← ih, Go.Lib.indexByte]
    by_cases h : c = b
    · subst h; simp
    · have h2 : (b == c) = false := by simp; exact fun e => h e.symm
      have h1 : (c == b) = false := by simp [h]
      rw [h1, h2, Bool.false_or, if_neg (by simp)]
      by_cases h3 : Go.Lib.indexByte l b = -1
      · rw [h3]; rfl
      · rw [if_neg (by simpa using h3), Bool.eq_iff_iff, decide_eq_true_eq, decide_eq_true_eq]
        omega
theorem idx_blank (b : UInt8) : decide (0 ≤ Go.Lib.indexByte [9, 10, 13, 32] b) = lxBlank b := by
  rw [contains_idx, Bool.eq_iff_iff]
  simp only [lxBlank, List.contains_iff_mem, List.mem_cons, List.not_mem_nil, or_false, Bool.or_eq_true, decide_eq_true_eq, ← UInt8.toNat_inj]
  simp
  omega
theorem idx_mark (b : UInt8) : decide (0 ≤ Go.Lib.indexByte [61, 40, 41, 44, 58, 59] b) = lxMark b := by
  rw [contains_idx, Bool.eq_iff_iff]
  simp only [lxMark, List.contains_iff_mem, List.mem_cons, List.not_mem_nil, or_false, Bool.or_eq_true, decide_eq_true_eq, ← UInt8.toNat_inj]
  simp
  omega

set_option maxRecDepth 100000 in
set_option maxHeartbeats 800000 in
theorem blank_calls (b : UInt8) (w : World) : Calls Tryd.prog 33 #[.int .u8 b.toNat] w fun e w' => e = .returned (.bool (lxBlank b)) ∧ w' = w := by
  have HI := Lib.hid (Tryd.strings_IndexByte ⟨#[9, 10, 13, 32]⟩ b.toNat)
  have h := Lib.hid (idx_blank b)
  have hb := Lib.hid (byte_back b)
  go_enter Tryd.func33, Tryd.ntmps33
  go_wp2_with fail
  refine (HI.out _).mono ?_
  rintro e w1 ⟨rfl, rfl⟩
  rw [hb.out]
  generalize Go.Lib.indexByte [9, 10, 13, 32] b = k at *
  go_wp2
  go_ret
  exact ⟨ret_bool h.out, rfl⟩

theorem run_enter {P : Program} {f : FuncId} {fn : Func} {c : Code} (hf : P.funcs[f]? = some fn) (hname : (fn.name == "runtime.NumGoroutine") = false) (hb : fn.body = some c) (args : Array Value) (w : World) : (callFunc f args).run P w = .ok (.enter f args) w := by
  have h1 : fn.name ≠ "runtime.NumGoroutine" := by simpa using hname
  simp [callFunc, hf, h1, hb]

/-- the byte of a string at a place below its length -/
theorem str_at {s : List UInt8} {k : Nat} {b : UInt8} (h : s[k]? = some b) : ∀ (hk : k < (ByteArray.mk s.toArray).size), (ByteArray.mk s.toArray)[k]'hk = b := by
  intro hk
  obtain ⟨h1, h2⟩ := List.getElem?_eq_some_iff.1 h
  rw [← h2]
  rfl

theorem take_step {p : UInt8 → Bool} {s : List UInt8} {k : Nat} {b : UInt8} (h : s[k]? = some b) (hp : p b = true) : ((s.drop k).takeWhile p).length = 1 + ((s.drop (k + 1)).takeWhile p).length := by
  obtain ⟨h1, h2⟩ := List.getElem?_eq_some_iff.1 h
  rw [List.drop_eq_getElem_cons h1, h2, List.takeWhile_cons, if_pos hp, List.length_cons]
  omega
theorem take_stop {p : UInt8 → Bool} {s : List UInt8} {k : Nat} {b : UInt8} (h : s[k]? = some b) (hp : p b = false) : ((s.drop k).takeWhile p).length = 0 := by
  obtain ⟨h1, h2⟩ := List.getElem?_eq_some_iff.1 h
  rw [List.drop_eq_getElem_cons h1, h2, List.takeWhile_cons, if_neg (by simp [hp])]
  rfl

set_option maxRecDepth 100000 in
set_option maxHeartbeats 800000 in
theorem cut_calls (N : FuncId) (p : UInt8 → Bool) (hc : ∀ args w, (callFunc N args).run Tryd.prog w = .ok (.enter N args) w) (hN : ∀ (b : UInt8) (w : World), Calls Tryd.prog N #[.int .u8 b.toNat] w fun e w' => e = .returned (.bool (p b)) ∧ w' = w) (s : List UInt8) (hl : s.length ≤ 4611686018427387904) (w : World) :
    Calls Tryd.prog 36 #[.string ⟨s.toArray⟩, .func (.func N) #[] #[]] w fun e w' => e = .returned (.int .i64 (s.takeWhile p).length) ∧ w' = w := by
  have HN := Lib.hid hN
  have hsz : (ByteArray.mk s.toArray).size = s.length := rfl
  clear hN
  go_enter Tryd.func36, Tryd.ntmps36
  go_wp2_with fail
  go_loopw [5] (fun i wr => ∃ k : Nat, k ≤ s.length ∧ i = .int .i64 k ∧ (s.takeWhile p).length = k + ((s.drop k).takeWhile p).length ∧ wr = w) (fun i _ => s.length - (intOf i).toNat)
  case atStart => exact ⟨0, Nat.zero_le _, rfl, by simp, rfl⟩
  case round =>
    obtain ⟨k, hk, rfl, he, rfl⟩ := hrel
    have HE := Lib.hid he
    clear he
    rcases Nat.lt_or_ge k s.length with hlt | hge
    · obtain ⟨b, hb⟩ : ∃ b, s[k]? = some b := ⟨s[k], List.getElem?_eq_getElem hlt⟩
      have hat := str_at hb
      have HB := Lib.hid hb
      clear hb
      have hlt' : (k : Int) < s.length := by omega
      go_wp2_with fail
      refine (HN.out _ _).mono ?_
      rintro e w1 ⟨rfl, rfl⟩
      cases hp : p b with
      | true =>
        go_wp2_with fail
        go_roundw
        case rel => exact ⟨k + 1, by omega, by go_num, by rw [HE.out, take_step HB.out hp]; omega, trivial⟩
        case measure => simp [intOf]; omega
      | false =>
        go_wp2_with fail
        go_ret
        refine ⟨ret_int ?_, rfl⟩
        rw [HE.out, take_stop HB.out hp]
        omega
    · have hge' : ¬ (k : Int) < s.length := by omega
      go_wp2_with fail
      go_ret
      refine ⟨ret_int ?_, rfl⟩
      rw [HE.out, List.drop_eq_nil_of_le hge]
      simp
end Go.Proofs.YtkhbpebpljdifaaDoor
