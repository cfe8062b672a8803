/- The only token of a text: one, IsIdent, the reference's IsName. -/
import Derived.Test.YtkhbpebpljdifaaDoorLx
namespace Go.Proofs.YtkhbpebpljdifaaDoor
open Go.RowKit Go.PL Go.Maps

/-- what one comes to -/
def OneR (s : List UInt8) (e : Ending) : Prop :=
  (∃ k v l c : Nat, oneF s = some (k, v) ∧ e = .returned (.tuple #[.agg #[.int .i64 k, .string ⟨s.toArray⟩, .int .i64 v, .int .i64 l, .int .i64 c], .bool true])) ∨
  (oneF s = none ∧ e = .returned (.tuple #[.agg #[.int .i64 0, .string ⟨#[]⟩, .int .i64 0, .int .i64 0, .int .i64 0], .bool false]))
theorem oneF_len {s : List UInt8} {ts : List Tok} (h : lexT s = .ok ts) (hn : ts.length ≠ 2) : oneF s = none := by
  unfold oneF
  rw [h]
  match ts, hn with
  | [], _ => rfl
  | [a], _ => rfl
  | [a, b], hn => exact absurd rfl hn
  | a :: b :: c :: l, _ => rfl
theorem oneF_two {s : List UInt8} {t t' : Tok} (h : lexT s = .ok [t, t']) : oneF s = if t.text = s then some (t.kind, t.val) else none := by
  unfold oneF
  rw [h]
theorem oneF_err {s : List UInt8} {e : Nat × Nat × Nat} (h : lexT s = .error e) : oneF s = none := by
  unfold oneF
  rw [h]

set_option maxRecDepth 100000 in
set_option maxHeartbeats 6400000 in
theorem one_calls (s : List UInt8) (w : World) (he : Env w) (hmax : s.length ≤ 281474976710656) : Calls Tryd.prog 44 #[.string ⟨s.toArray⟩] w fun e w' => OneR s e ∧ Upto [] w w' := by
  have hu0 : Upto [] w (w.alloc (.cells #[.int .i64 0, .string ⟨#[]⟩, .int .i64 0, .int .i64 0, .int .i64 0] 36)) := (Upto.refl [] w).alloc _
  have hb0 := new_at w (.cells #[.int .i64 0, .string ⟨#[]⟩, .int .i64 0, .int .i64 0, .int .i64 0] 36)
  have hB0 : w.heap.size ≤ w.heap.size := Nat.le_refl _
  have he0 := he.ext hu0
  cases hl : lexT s with
  | error lcn =>
    obtain ⟨l, c, n⟩ := lcn
    have HT := Lib.hid (tok_err hl hmax l c n rfl rfl rfl _ he0)
    have HNO := Lib.hid (oneF_err hl)
    have hn : ((n : Int) == 0) = false := by
      rw [beq_eq_false_iff_ne]
      rcases lexT_err hl with h | h <;> omega
    have hn2 : ((n : Int) != 0) = true := by rw [bne, hn]; rfl
    clear hl he he0
    go_enter Tryd.func44, Tryd.ntmps44
    go_wp2_with fail
    refine HT.out.mono ?_
    rintro e w1 ⟨rfl, hu1⟩
    have hb := (hu1.alloc (.cells #[.int .i64 l, .int .i64 c] 24)).at hb0 (by simp)
    have hup := (hu0.trans_ext hu1).alloc (.cells #[.int .i64 l, .int .i64 c] 24)
    clear hu0 hb0 hu1 HT
    go_upto_region 2 with fail
    generalize w1.alloc (.cells #[.int .i64 l, .int .i64 c] 24) = w2 at *
    generalize hBe : w.heap.size = B at *
    have hB : w.heap.size ≤ B := by omega
    have q0 := cell_of hb 0
    have q1 := cell_of hb 1
    have q2 := cell_of hb 2
    have q3 := cell_of hb 3
    have q4 := cell_of hb 4
    have f0 := free_of hb 0
    have f1 := free_of hb 1
    have f2 := free_of hb 2
    have f3 := free_of hb 3
    have f4 := free_of hb 4
    simp only [List.getElem?_toArray, List.getElem?_cons_zero, List.getElem?_cons_succ] at q0 q1 q2 q3 q4
    go_wp2_with fail
    refine bodyPost_ret (v := .tuple #[.agg #[.int .i64 0, .string ⟨#[]⟩, .int .i64 0, .int .i64 0, .int .i64 0], .bool false]) (by simp [results, Tryd.results44, go_sem, q0, q1, q2, q3, q4]) rfl ⟨Or.inr ⟨HNO.out, rfl⟩, tok_up hup hB _ _ _ _ _⟩
  | ok ts =>
    have HT := Lib.hid (tok_ok hl hmax _ he0)
    by_cases hn : ts.length = 2
    · obtain ⟨t, t', rfl⟩ : ∃ t t', ts = [t, t'] := by
        match ts, hn with
        | [a, b], _ => exact ⟨a, b, rfl⟩
      have HF := Lib.hid (oneF_two hl)
      clear hl he he0 hn
      have hone : Hid (t.text = s → oneF s = some (t.kind, t.val)) := Lib.hid (fun h => by rw [HF.out, if_pos h])
      have hnone : Hid (t.text ≠ s → oneF s = none) := Lib.hid (fun h => by rw [HF.out, if_neg h])
      go_enter Tryd.func44, Tryd.ntmps44
      go_wp2_with fail
      refine HT.out.mono ?_
      rintro e w1 ⟨v, rfl, hv, hu1⟩
      have hb := (hu1.alloc (.cells #[.int .i64 0, .int .i64 0] 24)).at hb0 (by simp)
      have hup := (hu0.trans_ext hu1).alloc (.cells #[.int .i64 0, .int .i64 0] 24)
      have hv2 := hv.ext ((Upto.refl [] w1).alloc (.cells #[.int .i64 0, .int .i64 0] 24))
      have hbs := lt_of_heap (hu1.at hb0 (by simp))
      clear hu0 hb0 hu1 HT hv
      go_upto_region 2 with fail
      generalize w1.alloc (.cells #[.int .i64 0, .int .i64 0] 24) = w2 at *
      generalize hBe : w.heap.size = B at *
      have hB : w.heap.size ≤ B := by omega
      have q0 := cell_of hb 0
      have q1 := cell_of hb 1
      have q2 := cell_of hb 2
      have q3 := cell_of hb 3
      have q4 := cell_of hb 4
      have f0 := free_of hb 0
      have f1 := free_of hb 1
      have f2 := free_of hb 2
      have f3 := free_of hb 3
      have f4 := free_of hb 4
      simp only [List.getElem?_toArray, List.getElem?_cons_zero, List.getElem?_cons_succ] at q0 q1 q2 q3 q4
      rcases hv2.at with ⟨h1, _⟩ | ⟨g, o, c, rfl, hat⟩
      · cases h1
      · obtain ⟨c0, c1, c2, c3, c4⟩ := hat 0 _ rfl
        simp only [Nat.zero_mul, Nat.add_zero, bs] at c0 c1 c2 c3 c4
        simp only [List.length_cons, List.length_nil]
        clear hat hv2 HF
        by_cases hx : t.text = s
        · have hx2 : (t.text == s) = true := by simpa using hx
          have HONE := Lib.hid (hone.out hx)
          rw [hx] at c1
          clear hone hnone
          rw [hx] at hx2
          clear hx
          go_wp2_with fail
          refine bodyPost_ret (v := .tuple #[.agg #[.int .i64 t.kind, .string ⟨s.toArray⟩, .int .i64 t.val, .int .i64 t.line, .int .i64 t.col], .bool true]) (by simp [results, Tryd.results44, go_sem, q0, q1, q2, q3, q4]) rfl ⟨Or.inl ⟨t.kind, t.val, t.line, t.col, HONE.out, rfl⟩, tok_up hup hB _ _ _ _ _⟩
        · have hx2 : (t.text == s) = false := by simpa using hx
          have HNO := Lib.hid (hnone.out hx)
          clear hx hone hnone
          go_wp2_with fail
          refine bodyPost_ret (v := .tuple #[.agg #[.int .i64 0, .string ⟨#[]⟩, .int .i64 0, .int .i64 0, .int .i64 0], .bool false]) (by simp [results, Tryd.results44, go_sem, q0, q1, q2, q3, q4]) rfl ⟨Or.inr ⟨HNO.out, rfl⟩, tok_up hup hB _ _ _ _ _⟩
    · have HNO := Lib.hid (oneF_len hl hn)
      have hn2 : ((ts.length : Int) == 2) = false := by
        rw [beq_eq_false_iff_ne]
        omega
      have hn3 : ((ts.length : Int) != 2) = true := by rw [bne, hn2]; rfl
      clear hl he he0
      go_enter Tryd.func44, Tryd.ntmps44
      go_wp2_with fail
      refine HT.out.mono ?_
      rintro e w1 ⟨v, rfl, hv, hu1⟩
      have hb := (hu1.alloc (.cells #[.int .i64 0, .int .i64 0] 24)).at hb0 (by simp)
      have hup := (hu0.trans_ext hu1).alloc (.cells #[.int .i64 0, .int .i64 0] 24)
      obtain ⟨va, vc, rfl⟩ := hv.len
      clear hu0 hb0 hu1 HT hv hn
      go_upto_region 2 with fail
      generalize w1.alloc (.cells #[.int .i64 0, .int .i64 0] 24) = w2 at *
      generalize hBe : w.heap.size = B at *
      have hB : w.heap.size ≤ B := by omega
      have q0 := cell_of hb 0
      have q1 := cell_of hb 1
      have q2 := cell_of hb 2
      have q3 := cell_of hb 3
      have q4 := cell_of hb 4
      have f0 := free_of hb 0
      have f1 := free_of hb 1
      have f2 := free_of hb 2
      have f3 := free_of hb 3
      have f4 := free_of hb 4
      simp only [List.getElem?_toArray, List.getElem?_cons_zero, List.getElem?_cons_succ] at q0 q1 q2 q3 q4
      go_wp2_with fail
      refine bodyPost_ret (v := .tuple #[.agg #[.int .i64 0, .string ⟨#[]⟩, .int .i64 0, .int .i64 0, .int .i64 0], .bool false]) (by simp [results, Tryd.results44, go_sem, q0, q1, q2, q3, q4]) rfl ⟨Or.inr ⟨HNO.out, rfl⟩, tok_up hup hB _ _ _ _ _⟩

/-- is s an identifier -/
def identF (s : List UInt8) : Bool := match oneF s with | some (k, _) => decide (k = 1) | none => false
set_option maxRecDepth 100000 in
set_option maxHeartbeats 6400000 in
theorem isIdent_calls (s : List UInt8) (w : World) (he : Env w) (hmax : s.length ≤ 281474976710656) : Calls Tryd.prog 20 #[.string ⟨s.toArray⟩] w fun e w' => e = .returned (.bool (identF s)) ∧ Upto [] w w' := by
  have H := Lib.hid (one_calls s w he hmax)
  go_enter Tryd.func20, Tryd.ntmps20
  go_wp2_with fail
  refine H.out.mono ?_
  rintro e w1 ⟨⟨k, v, l, c, ho, rfl⟩ | ⟨ho, rfl⟩, hu1⟩
  · have hf : Hid (identF s = ((k : Int) == 1)) := Lib.hid (by
      unfold identF
      rw [ho]
      rw [Bool.eq_iff_iff, beq_iff_eq]
      simp only [decide_eq_true_eq]
      omega)
    have hu2 := hu1.alloc (.cells #[.int .i64 k, .string ⟨s.toArray⟩, .int .i64 v, .int .i64 l, .int .i64 c] 36)
    obtain ⟨q0, -, -, -, -⟩ := tok_cells w1 (.int .i64 k) (.string ⟨s.toArray⟩) (.int .i64 v) (.int .i64 l) (.int .i64 c) 36
    clear ho hu1 H
    go_wp2_with fail
    go_ret
    refine ⟨ret_bool ?_, hu2⟩
    rw [hf.out]
  · have hf : Hid (identF s = false) := Lib.hid (by unfold identF; rw [ho])
    have hu2 := hu1.alloc (.cells #[.int .i64 0, .string ⟨#[]⟩, .int .i64 0, .int .i64 0, .int .i64 0] 36)
    clear ho hu1 H
    go_wp2_with fail
    go_ret
    refine ⟨ret_bool ?_, hu2⟩
    rw [hf.out]

/-- the reference's question -/
def nameF (s : List UInt8) : Bool := decide (s ≠ []) && s.all lxInner && (match classify s with | .ok (k, _) => decide (k = 1) | .error _ => false)
theorem ident_name {s : List UInt8} (h : s.length ≤ 65536) : identF s = nameF s := by
  rw [Bool.eq_iff_iff]
  constructor
  · intro hi
    unfold identF at hi
    cases ho : oneF s with
    | none => rw [ho] at hi; cases hi
    | some kv =>
      obtain ⟨k, v⟩ := kv
      rw [ho] at hi
      simp only [decide_eq_true_eq] at hi
      subst hi
      obtain ⟨-, hr⟩ := oneF_real.1 ho
      rcases hr with ⟨b, _, _, h4, _⟩ | ⟨h1, h2, h3⟩
      · cases h4
      · simp only [nameF, h3, Bool.and_eq_true, decide_eq_true_eq, List.all_eq_true, Bool.and_true]
        exact ⟨⟨h1, h2⟩, trivial⟩
  · intro hn
    simp only [nameF, Bool.and_eq_true, decide_eq_true_eq, List.all_eq_true] at hn
    obtain ⟨⟨h1, h2⟩, h3⟩ := hn
    cases hc : classify s with
    | error e => rw [hc] at h3; cases h3
    | ok kv =>
      obtain ⟨k, v⟩ := kv
      rw [hc] at h3
      simp only [decide_eq_true_eq] at h3
      subst h3
      unfold identF
      rw [oneF_real.2 ⟨h, Or.inr ⟨h1, h2, hc⟩⟩]
      rfl
theorem takeWhile_len {p : UInt8 → Bool} {s : List UInt8} : ((s.takeWhile p).length = s.length) ↔ s.all p = true := by
  constructor
  · intro h
    cases ha : s.all p with
    | true => rfl
    | false => have := take_not ha; omega
  · intro h
    rw [take_all h]

set_option maxRecDepth 100000 in
set_option maxHeartbeats 6400000 in
theorem isName_calls (s : List UInt8) (w : World) (hmax : s.length ≤ 281474976710656) : Calls Tryd.prog 21 #[.string ⟨s.toArray⟩] w fun e w' => e = .returned (.bool (nameF s)) ∧ Upto [] w w' := by
  have hsz : (ByteArray.mk s.toArray).size = s.length := rfl
  cases s with
  | nil =>
    go_enter Tryd.func21, Tryd.ntmps21
    go_wp2_with fail
    go_ret
    exact ⟨ret_bool rfl, Upto.refl _ _⟩
  | cons b t =>
    have HC := Lib.hid (runR_calls (b :: t) 0 (by omega) (by omega) w)
    rw [List.drop_zero] at HC
    have HT := Lib.hid (tokenR_calls b t w hmax)
    have HF := Lib.hid (show nameF (b :: t) = ((b :: t).all lxInner && (match classify (b :: t) with | .ok (k, _) => decide (k = 1) | .error _ => false)) by simp [nameF])
    have hlen : ((b :: t).length : Int) ≠ 0 := by simp only [List.length_cons]; omega
    have hl0 : (((b :: t).length : Int) == 0) = false := by rw [beq_eq_false_iff_ne]; exact hlen
    have htl := Lib.hid (takeWhile_len (p := lxInner) (s := b :: t))
    have hta : (b :: t).all lxInner = true → Hid ((b :: t).takeWhile lxInner = b :: t) := fun h => Lib.hid (take_all h)
    cases ha : (b :: t).all lxInner with
    | false =>
      have hne : (((b :: t).takeWhile lxInner).length : Int) ≠ (b :: t).length := by
        intro h
        have := htl.out.1 (by omega)
        rw [ha] at this
        cases this
      rw [ha] at HF
      have HFF : Hid (nameF (b :: t) = false) := Lib.hid (by rw [HF.out]; rfl)
      have hne2 : ((((b :: t).takeWhile lxInner).length : Int) == (b :: t).length) = false := by rw [beq_eq_false_iff_ne]; exact hne
      generalize ((b :: t).takeWhile lxInner).length = n at *
      generalize b :: t = s at *
      clear HT HF hta htl ha
      go_enter Tryd.func21, Tryd.ntmps21
      go_wp2_with fail
      refine HC.out.mono ?_
      rintro e w1 ⟨rfl, rfl⟩
      go_wp2_with fail
      go_ret
      exact ⟨ret_bool HFF.out.symm, Upto.refl _ _⟩
    | true =>
      rw [(hta ha).out] at HC
      rw [ha] at HF
      generalize b :: t = s at *
      clear hta htl ha
      go_enter Tryd.func21, Tryd.ntmps21
      go_wp2_with fail
      refine HC.out.mono ?_
      rintro e w1 ⟨rfl, rfl⟩
      go_wp2_with fail
      refine HT.out.mono ?_
      rintro e w2 ⟨⟨k, v, n, x, rfl, hcase⟩, hu2⟩
      unfold tkV
      have hu3 := hu2.alloc (.cells #[.int .i64 k, .string ⟨x.toArray⟩, .int .i64 v, .int .i64 0, .int .i64 0] 80)
      rcases hcase with ⟨rfl, rfl, hc⟩ | ⟨hn, hc⟩
      · have hf : Hid (nameF x = ((k : Int) == 1)) := Lib.hid (by
          rw [HF.out, hc, Bool.true_and, Bool.eq_iff_iff, beq_iff_eq]
          simp only [decide_eq_true_eq]
          omega)
        simp only [show ((0 : Nat) : Int) = 0 from rfl]
        clear HC HT HF hc hu2
        go_wp2_with fail
        go_ret
        exact ⟨ret_bool hf.out.symm, hu3⟩
      · have hn0 : ((n : Int) == 0) = false := by rw [beq_eq_false_iff_ne]; omega
        have hf : Hid (nameF s = false) := Lib.hid (by rw [HF.out, hc]; rfl)
        clear HC HT HF hc hu2
        go_wp2_with fail
        go_ret
        exact ⟨ret_bool hf.out.symm, hu3⟩
end Go.Proofs.YtkhbpebpljdifaaDoor
