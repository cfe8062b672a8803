/- The walk of LexerTokenize. -/
import Derived.Test.YtkhbpebpljdifaaDoorLa
import Derived.Test.YtkhbpebpljdifaaDoorLb
namespace Go.Proofs.YtkhbpebpljdifaaDoor
open Go.RowKit Go.PL Go.Maps

/-- tokens, place and number of an answer -/
def outT : Except (Nat × Nat × Nat) (List Tok) → List Tok × Nat × Nat × Nat
  | .ok ts => (ts, 0, 0, 0)
  | .error (l, c, n) => ([], l, c, n)
theorem toks_nil (w : World) : Toks w (.slice none 0 0) [] := ⟨rfl, Or.inl ⟨rfl, none, 0, rfl⟩⟩
theorem TokR.out {s : List UInt8} {e : Ending} {w : World} (h : TokR s e w) : ∃ v, e = .returned (.tuple #[v, .agg #[.int .i64 (outT (lexT s)).2.1, .int .i64 (outT (lexT s)).2.2.1], .int .i64 (outT (lexT s)).2.2.2]) ∧ Toks w v (outT (lexT s)).1 := by
  rcases h with ⟨ts, v, hl, rfl, hT⟩ | ⟨l, c, n, hl, _, rfl⟩
  · rw [hl]; exact ⟨v, rfl, hT⟩
  · rw [hl]; exact ⟨_, rfl, toks_nil w⟩
theorem TokRR.out {s : List UInt8} {e : Ending} {w : World} (h : TokRR s e w) : ∃ v, e = .returned (.tuple #[v, .int .i64 (outT (lexT s)).2.1, .int .i64 (outT (lexT s)).2.2.1, .int .i64 (outT (lexT s)).2.2.2]) ∧ Toks w v (outT (lexT s)).1 := by
  rcases h with ⟨ts, v, hl, rfl, hT⟩ | ⟨l, c, n, hl, _, rfl⟩
  · rw [hl]; exact ⟨v, rfl, hT⟩
  · rw [hl]; exact ⟨_, rfl, toks_nil w⟩
theorem outT_len (s : List UInt8) : (outT (lexT s)).1.length ≤ s.length + 1 := by
  unfold lexT
  split
  · simp [outT]
  · cases h : lexS s 1 1 with
    | error e => obtain ⟨l, c, n⟩ := e; simp [outT]
    | ok ts =>
      obtain ⟨ts', l', c', h1, h2, h3, h4⟩ := lexS_real s 1 1 ts h
      simp only [outT, h1]
      simp
      omega
/-- a text cut at 3000 bytes -/
theorem cut3000 (s : List UInt8) : (ByteArray.mk s.toArray).extract 0 (min (s.length : Int) 3000).toNat = ⟨(s.take 3000).toArray⟩ := by
  rw [ByteArray.extract_mk, List.drop_zero, Nat.sub_zero, show (min (s.length : Int) 3000).toNat = min 3000 s.length by omega, ← List.take_eq_take_min]

set_option maxRecDepth 100000 in
set_option maxHeartbeats 6400000 in
theorem lexerTokenize_walk (s : List UInt8) (hs : s.length ≤ maxLen) (w : World) (he : Env w) : Calls Tryd.prog 3 #[.string ⟨s.toArray⟩] w fun e w' => e = .returned (.bool true) ∧ Upto [] w w' := by
  have hsz : (ByteArray.mk s.toArray).size = s.length := rfl
  have hq : (s.take 3000).length ≤ 3000 := by rw [List.length_take]; omega
  have HQ := Lib.hid hq
  have hlen := outT_len (s.take 3000)
  have HT := Lib.hid (fun u h => tokenize_calls (s.take 3000) u h (by omega))
  have HTR := Lib.hid (fun u => tokensR_calls (s.take 3000) u (by omega))
  have HK := Lib.hid knownL_calls
  have HTo := Lib.hid to_calls
  have HAl := Lib.hid alike_calls
  unfold maxLen at hs
  have hx := cut3000 s
  have hI : (s.length : Int) ≤ 9223372036854775807 := by omega
  have hmin0 : (0 : Int) ≤ min (s.length : Int) 3000 := by omega
  have hmin1 : min (s.length : Int) 3000 ≤ s.length := by omega
  have h0 := Lib.hid he
  generalize s.take 3000 = q at *
  clear he
  go_enter Tryd.func3, Tryd.ntmps3
  go_wp2_with fail
  try rw [hx]
  refine (HT.out _ h0.out).mono ?_
  rintro e w1 ⟨hr, hu1⟩
  obtain ⟨v, rfl, hv⟩ := hr.out
  have HO := Lib.hid (fun u => (HTR.out u).mono fun e w' h => (⟨h.1.out, h.2⟩ : _ ∧ _))
  generalize (outT (lexT q)).1 = ts at *
  generalize (outT (lexT q)).2.1 = l at *
  generalize (outT (lexT q)).2.2.1 = c at *
  generalize (outT (lexT q)).2.2.2 = n at *
  have hb2 := new_at w1 (.cells #[.int .i64 l, .int .i64 c] 24)
  have hu2 := hu1.alloc (.cells #[.int .i64 l, .int .i64 c] 24)
  have hv2 := hv.ext ((Upto.refl [] w1).alloc (.cells #[.int .i64 l, .int .i64 c] 24))
  clear hu1 hv hr
  go_wp2_with fail
  try rw [hx]
  refine (HO.out _).mono ?_
  rintro e w3 ⟨⟨v', rfl, hv'⟩, hu3⟩
  have hb3 := hu3.at hb2 (by simp)
  have hv3 := hv2.ext hu3
  have hu4 := hu2.trans_ext hu3
  clear hb2 hv2 hu2 hu3
  generalize w1.heap.size = B at *
  go_wp2_with fail
  refine (HK.out _ (h0.out.ext hu4)).mono ?_
  rintro e w5 ⟨rfl, hu5⟩
  have hb5 := hu5.at hb3 (by simp)
  have hv5 := hv3.ext hu5
  have hv5' := hv'.ext hu5
  have hu6 := hu4.trans_ext hu5
  have q0 := cell_of hb5 0
  have q1 := cell_of hb5 1
  simp only [List.getElem?_toArray, List.getElem?_cons_zero, List.getElem?_cons_succ] at q0 q1
  clear hb3 hv3 hv' hu4 hu5 hb5
  have HV := Lib.hid hv5
  have HV' := Lib.hid hv5'
  clear hv5 hv5'
  have hts : ts.length ≤ 1000000 := by have := HQ.out; omega
  go_wp2_with fail
  refine (HTo.out ts v _ HV.out hts).mono ?_
  rintro e w7 ⟨v'', rfl, hv7, hu7⟩
  have HV7 := Lib.hid hv7
  have HW7 := Lib.hid (HV'.out.ext hu7)
  have hu8 := hu6.trans_ext hu7
  clear hv7 hu7 hu6
  go_wp2_with fail
  refine (HAl.out ts v'' v' _ HV7.out HW7.out hts).mono ?_
  rintro e w9 ⟨rfl, hu9⟩
  go_wp2_with fail
  go_ret
  exact ⟨rfl, hu8.trans_ext hu9⟩
end Go.Proofs.YtkhbpebpljdifaaDoor
