/- The reference's Tokens. -/
import Derived.Test.YtkhbpebpljdifaaDoorTokA
namespace Go.Proofs.YtkhbpebpljdifaaDoor
open Go.RowKit Go.PL Go.Maps

theorem info80 : (Tryd.prog.info? 80).map (fun i => (i.zero, i.size, i.bytes)) = some (some (.agg #[.int .i64 0, .string ⟨#[]⟩, .int .i64 0, .int .i64 0, .int .i64 0]), 5, 48) := by kernel_rfl

/-- the tokens so far -/
structure TkR (w : World) (acc : List Tok) (l : Value) (wr : World) : Prop where
  row : wr.ownsRow 0 80 5 l acc.length (acc.flatMap tkC)
  own : ∀ g, l.ownBlock = some g → w.heap.size ≤ g
  up : Upto [] w wr
section
variable {w wr wr' : World} {acc : List Tok} {l : Value}
theorem TkR.ext (h : TkR w acc l wr) (hu : Upto [] wr wr') : TkR w acc l wr' := ⟨ownsRow_upto h.row hu (by simp), h.own, h.up.trans_ext hu⟩
theorem TkR.app {t : Tok} {src : Obj} {b' : Option Addr} {c' : Nat} (h : TkR w acc l wr) (ho : wr'.ownsRow 0 80 5 (.slice b' (acc.length + 1) c') (acc.length + 1) (acc.flatMap tkC ++ tkC t)) (hu : Upto l.ownBlock.toList (wr.alloc src) wr') (hw : ∀ g, (Value.slice b' (acc.length + 1) c').ownBlock = some g → l.ownBlock = some g ∨ (wr.alloc src).heap.size ≤ g) :
    TkR w (acc ++ [t]) (.slice b' (acc.length + 1) c') wr' := by
  have h' := h.ext ((Upto.refl [] wr).alloc src)
  refine ⟨?_, fun g hg => (hw g hg).elim (h.own g) (fun h => Nat.le_trans h'.up.size h), h'.up.trans hu (fun k hk => Or.inr (h.own k (Option.mem_toList.1 hk)))⟩
  rw [toks_snoc]
  simpa using ho
end
theorem TkR.app' {w wr wr' : World} {acc : List Tok} {l : Value} {t : Tok} {src : Obj} {n : Nat} {b' : Option Addr} {c' : Nat} (h : TkR w acc l wr) (hn : acc.length = n) (ho : wr'.ownsRow 0 80 5 (.slice b' (n + 1) c') (n + 1) (acc.flatMap tkC ++ tkC t)) (hu : Upto l.ownBlock.toList (wr.alloc src) wr') (hw : ∀ g, (Value.slice b' (n + 1) c').ownBlock = some g → l.ownBlock = some g ∨ (wr.alloc src).heap.size ≤ g) :
    TkR w (acc ++ [t]) (.slice b' (n + 1) c') wr' := by
  subst hn
  exact h.app ho hu hw
theorem tok_store {w : World} {B : Nat} {a b c d e : Value} {T : TypeId} (h : w.heap[B]? = some (.cells #[a, b, c, d, e] T (0, 0))) (a' b' c' d' e' : Value) :
    (((((w.setCell ⟨B, 0, none⟩ a').setCell ⟨B, 1, none⟩ b').setCell ⟨B, 2, none⟩ c').setCell ⟨B, 3, none⟩ d').setCell ⟨B, 4, none⟩ e').heap[B]? = some (.cells #[a', b', c', d', e'] T (0, 0)) := by
  have := set_same (set_same (set_same (set_same (set_same h 0 a') 1 b') 2 c') 3 d') 4 e'
  simpa using this
theorem tok_up {v w : World} {B : Nat} (h : Upto [] v w) (hB : v.heap.size ≤ B) (a' b' c' d' e' : Value) :
    Upto [] v (((((w.setCell ⟨B, 0, none⟩ a').setCell ⟨B, 1, none⟩ b').setCell ⟨B, 2, none⟩ c').setCell ⟨B, 3, none⟩ d').setCell ⟨B, 4, none⟩ e') :=
  ((((h.setCell (Or.inr hB) _).setCell (Or.inr hB) _).setCell (Or.inr hB) _).setCell (Or.inr hB) _).setCell (Or.inr hB) _

/-- what the reference comes to -/
def TokRR (s : List UInt8) (e : Ending) (w' : World) : Prop :=
  (∃ ts v, lexT s = .ok ts ∧ e = .returned (.tuple #[v, .int .i64 0, .int .i64 0, .int .i64 0]) ∧ Toks w' v ts) ∨
  ∃ l c n : Nat, lexT s = .error (l, c, n) ∧ n ≠ 0 ∧ e = .returned (.tuple #[.slice none 0 0, .int .i64 l, .int .i64 c, .int .i64 n])
set_option maxRecDepth 100000 in
set_option maxHeartbeats 12800000 in
theorem tokensR_calls (s : List UInt8) (w : World) (hmax : s.length ≤ 281474976710656) :
    Calls Tryd.prog 14 #[.string ⟨s.toArray⟩] w fun e w' => TokRR s e w' ∧ Upto [] w w' := by
  have hsz : (ByteArray.mk s.toArray).size = s.length := rfl
  by_cases hbig : 65536 < s.length
  · have hbig' : (65536 : Int) < s.length := by omega
    have HR : Hid (lexT s = .error (0, 0, 2)) := Lib.hid (by rw [lexT, if_pos hbig])
    clear hbig
    go_enter Tryd.func14, Tryd.ntmps14
    go_wp2_with fail
    refine bodyPost_ret (v := .tuple #[.slice none 0 0, .int .i64 0, .int .i64 0, .int .i64 2]) (by simp [results, Tryd.results14, go_sem]) rfl ⟨Or.inr ⟨0, 0, 2, HR.out, by decide, rfl⟩, Upto.refl _ _⟩
  · have hbig' : ¬ (65536 : Int) < s.length := by omega
    have HLT := Lib.hid (show lexT s = lexS s 1 1 by rw [lexT, if_neg hbig])
    have hlen : s.length ≤ 65536 := by omega
    obtain ⟨i0, hi0, hz0, hz1, hz2⟩ := info_parts info80
    have HI := Lib.hid hi0
    have HZ0 := Lib.hid hz0
    have HZ1 := Lib.hid hz1
    have HZ2 := Lib.hid hz2
    clear hi0 hz0 hz1 hz2 hbig
    have HB := Lib.hid blankR_calls
    have HN := Lib.hid innerR_calls
    have HK := Lib.hid markR_calls
    have HC := Lib.hid runR_calls
    have HT := Lib.hid tokenR_calls
    have hM : TkR w [] (.slice (some ⟨w.heap.size, 0, none⟩) 0 0) (w.alloc (.cells #[] 80)) := by
      refine ⟨⟨rfl, Or.inr ⟨_, 0, #[], rfl, Nat.zero_le _, new_at _ _, Nat.le_refl _, by unfold maxLen; omega, rfl, rfl⟩⟩, fun g hg => ?_, (Upto.refl [] w).alloc _⟩
      simp [Value.ownBlock] at hg
      omega
    go_enter Tryd.func14, Tryd.ntmps14
    go_wp2_with fail
    generalize w.alloc (.cells #[] 80) = W0 at *
    go_loopw [6, 7, 8, 9] (fun l t7 t8 i wr => ∃ (k L c : Nat) (acc : List Tok), k ≤ s.length ∧ i = .int .i64 k ∧ t7 = .int .i64 L ∧ t8 = .int .i64 c ∧ TkR w acc l wr ∧ Hid (acc.length ≤ k ∧ L ≤ k + 1 ∧ c ≤ k + 1) ∧ Hid (lexS s 1 1 = Go.PL.ahead acc (lexS (s.drop k) L c))) (fun _ _ _ i _ => s.length - (intOf i).toNat)
    case atStart => exact ⟨0, 1, 1, [], by omega, rfl, rfl, rfl, hM, Lib.hid ⟨by simp, by omega, by omega⟩, Lib.hid (by rw [ahead_nil]; rfl)⟩
    case round =>
      obtain ⟨k, L, c, acc, hk, rfl, rfl, rfl, hM', HL, HE⟩ := hrel
      clear hM
      obtain ⟨va, vc, rfl, -⟩ := ownsRow_len hM'.row
      have HA := Lib.hid hM'
      clear hM'
      obtain ⟨hacc, hLk, hck⟩ := HL.out
      clear HL
      have hkb : (k : Int) ≤ 65536 := by omega
      have hk0 : (0 : Int) ≤ k := by omega
      have hL0 : (0 : Int) ≤ L := by omega
      have hLb : (L : Int) ≤ 65537 := by omega
      have hc0 : (0 : Int) ≤ c := by omega
      have hcb : (c : Int) ≤ 65537 := by omega
      rcases Nat.lt_or_ge k s.length with hlt | hge
      · obtain ⟨b, hb⟩ : ∃ b, s[k]? = some b := ⟨s[k], List.getElem?_eq_getElem hlt⟩
        have hat := str_at hb
        have hd := Lib.hid (drop_at hb)
        clear hb
        have hlt2 : (k : Int) < s.length := by omega
        go_wp2_with fail
        refine (HB.out _ _).mono ?_
        rintro e wb ⟨rfl, hwb⟩
        have hwb' := hwb.symm
        subst hwb'
        cases hbl : lxBlank b with
        | true =>
          have HBL := Lib.hid hbl
          by_cases h10 : b.toNat = 10
          · have t10 : ((b.toNat : Int) == 10) = true := by simp [h10]
            have H10 := Lib.hid h10
            clear h10
            go_wp2_with fail
            go_roundw
            case rel => exact ⟨k + 1, L + 1, 1, acc, by omega, by go_num, by go_num, rfl, HA.out, Lib.hid ⟨by omega, by omega, by omega⟩, Lib.hid (by rw [HE.out, hd.out, lexS_line H10.out])⟩
            case measure => simp [intOf]; omega
          · have t10 : ((b.toNat : Int) == 10) = false := by rw [beq_eq_false_iff_ne]; omega
            have H10 := Lib.hid h10
            clear h10
            go_wp2_with fail
            go_roundw
            case rel => exact ⟨k + 1, L, c + 1, acc, by omega, by go_num, rfl, by go_num, HA.out, Lib.hid ⟨by omega, by omega, by omega⟩, Lib.hid (by rw [HE.out, hd.out, lexS_blank HBL.out H10.out])⟩
            case measure => simp [intOf]; omega
        | false =>
          have HBL := Lib.hid hbl
          go_wp2_with fail
          refine (HN.out _ _).mono ?_
          rintro e wb ⟨rfl, hwb⟩
          have hwb' := hwb.symm
          subst hwb'
          cases hin : lxInner b with
          | true =>
            have HIN := Lib.hid hin
            go_wp2_with fail
            with_reducible refine (HC.out s k hk (by omega) _).mono ?_
            rintro e wb ⟨rfl, hwb⟩
            have hwb' := hwb.symm
            subst hwb'
            obtain ⟨r, q, hrq, hrn, hri, hq, -⟩ := lex_split (s.drop k) ⟨b, s.drop (k + 1), hd.out, hin⟩
            obtain ⟨hr1, hr2⟩ := run_split hri hq
            rw [← hrq] at hr1 hr2
            obtain ⟨r', hr'⟩ : ∃ r', r = b :: r' := by
              cases r with
              | nil => exact absurd rfl hrn
              | cons y r' =>
                have := hrq.symm.trans hd.out
                rw [List.cons_append] at this
                injection this with h1 h2
                rw [h1]
                exact ⟨r', rfl⟩
            have hlr : k + r.length + q.length = s.length := by
              have := congrArg List.length hrq
              simp only [List.length_drop, List.length_append] at this
              omega
            have hqd : s.drop (k + r.length) = q := by
              rw [← List.drop_drop, hrq, List.drop_left]
            have hx2 : (ByteArray.mk s.toArray).extract k (k + r.length) = ⟨r.toArray⟩ := by
              rw [ext_to, hrq, List.take_left]
            have hrl : r.length ≠ 0 := by rw [hr']; simp
            have hkr : (k : Int) + r.length ≤ s.length := by omega
            have hr0 : (0 : Int) ≤ r.length := by omega
            rw [hr1]
            have HS := Lib.hid (lexS_runs hrn hri hq)
            have HRR := Lib.hid hr'
            have HQ := Lib.hid hqd
            have HRQ := Lib.hid hrq
            clear hr' hrq hqd hr1 hr2 hri hq hrn hat
            go_wp2_with fail
            have HRC := HT.out b r' (wr.alloc (.cells #[.int .i64 0, .string ⟨#[]⟩, .int .i64 0, .int .i64 0, .int .i64 0] 80)) (by rw [← HRR.out]; omega)
            rw [← HRR.out] at HRC
            refine HRC.mono ?_
            rintro e w2 ⟨⟨kk, v, n, x, rfl, hcase⟩, hu2⟩
            clear HRC
            unfold tkV
            have hb2 := hu2.at (new_at wr (.cells #[.int .i64 0, .string ⟨#[]⟩, .int .i64 0, .int .i64 0, .int .i64 0] 80)) (by simp)
            have huw := ((Upto.refl [] wr).alloc (.cells #[.int .i64 0, .string ⟨#[]⟩, .int .i64 0, .int .i64 0, .int .i64 0] 80)).trans_ext hu2
            clear hu2
            generalize hB : wr.heap.size = B at *
            have hB' : wr.heap.size ≤ B := by omega
            have q0 := cell_of hb2 0
            have q1 := cell_of hb2 1
            have q2 := cell_of hb2 2
            have q3 := cell_of hb2 3
            have q4 := cell_of hb2 4
            have f0 := free_of hb2 0
            have f1 := free_of hb2 1
            have f2 := free_of hb2 2
            have f3 := free_of hb2 3
            have f4 := free_of hb2 4
            simp only [List.getElem?_toArray, List.getElem?_cons_zero, List.getElem?_cons_succ] at q0 q1 q2 q3 q4
            rcases hcase with ⟨rfl, rfl, hc⟩ | ⟨hn, hc⟩
            · simp only [show ((0 : Nat) : Int) = 0 from rfl]
              have hs2 := tok_store hb2 (.int .i64 kk) (.string ⟨x.toArray⟩) (.int .i64 v) (.int .i64 0) (.int .i64 0)
              have hu3 := tok_up huw hB' (.int .i64 kk) (.string ⟨x.toArray⟩) (.int .i64 v) (.int .i64 0) (.int .i64 0)
              clear hb2 huw hB
              go_upto_region 21 with fail
              generalize (((((w2.setCell ⟨B, 0, none⟩ (.int .i64 kk)).setCell ⟨B, 1, none⟩ (.string ⟨x.toArray⟩)).setCell ⟨B, 2, none⟩ (.int .i64 v)).setCell ⟨B, 3, none⟩ (.int .i64 0)).setCell ⟨B, 4, none⟩ (.int .i64 0)) = w3 at *
              have c0 := cell_of hs2 0
              have c1 := cell_of hs2 1
              have c2 := cell_of hs2 2
              have c3 := cell_of hs2 3
              have c4 := cell_of hs2 4
              have z3 := free_of hs2 3
              have z4 := free_of hs2 4
              simp only [List.getElem?_toArray, List.getElem?_cons_zero, List.getElem?_cons_succ] at c0 c1 c2 c3 c4
              have hs5 : ((w3.setCell ⟨B, 3, none⟩ (.int .i64 L)).setCell ⟨B, 4, none⟩ (.int .i64 c)).heap[B]? = some (.cells #[.int .i64 kk, .string ⟨x.toArray⟩, .int .i64 v, .int .i64 L, .int .i64 c] 80 (0, 0)) := by
                have := set_same (set_same hs2 3 (.int .i64 L)) 4 (.int .i64 c)
                simpa using this
              have hu5 : Upto [] wr ((w3.setCell ⟨B, 3, none⟩ (.int .i64 L)).setCell ⟨B, 4, none⟩ (.int .i64 c)) := (hu3.setCell (Or.inr hB') _).setCell (Or.inr hB') _
              clear q0 q1 q2 q3 q4 f0 f1 f2 f3 f4 hs2 hu3
              go_upto_region 22 with fail
              generalize (w3.setCell ⟨B, 3, none⟩ (.int .i64 L)).setCell ⟨B, 4, none⟩ (.int .i64 c) = w5 at *
              clear c0 c1 c2 c3 c4 z3 z4
              have c0 := cell_of hs5 0
              have c1 := cell_of hs5 1
              have c2 := cell_of hs5 2
              have c3 := cell_of hs5 3
              have c4 := cell_of hs5 4
              simp only [List.getElem?_toArray, List.getElem?_cons_zero, List.getElem?_cons_succ] at c0 c1 c2 c3 c4
              have HM5 := Lib.hid (HA.out.ext hu5)
              have hrow := (HM5.out.ext ((Upto.refl [] w5).alloc (.cells #[.int .i64 kk, .string ⟨x.toArray⟩, .int .i64 v, .int .i64 L, .int .i64 c] 80))).row
              have hsrc := cells_at (l := tkC ⟨kk, x, v, L, c⟩) (new_at w5 (.cells #[.int .i64 kk, .string ⟨x.toArray⟩, .int .i64 v, .int .i64 L, .int .i64 c] 80))
              clear hs5 hu5
              go_wp2_with (at_builtin; refine wpList_app _ rfl (.tmp 68) (.tmp 70) 28 rfl 80 i0 (.agg #[.int .i64 0, .string ⟨#[]⟩, .int .i64 0, .int .i64 0, .int .i64 0]) 5 48 Tryd.underlying28 HI.out HZ0.out HZ1.out HZ2.out rfl (by decide) (.slice va acc.length vc) acc.length _ rfl hrow ⟨w5.heap.size, 0, none⟩ 1 1 (tkC ⟨kk, x, v, L, c⟩) rfl rfl hsrc tkC_one (by unfold maxLen; omega) (by omega) ?_; intro vb vd w4 ho4 hu4 hw4; have HM4 := Lib.hid (HM5.out.app (t := ⟨kk, x, v, L, c⟩) ho4 hu4 hw4); clear hrow hsrc ho4 hu4 hw4)
              go_roundw
              case rel =>
                refine ⟨k + x.length, L, c + x.length, acc ++ [⟨kk, x, v, L, c⟩], by omega, by go_num, rfl, by go_num, HM4.out, Lib.hid ⟨by simp; omega, by omega, by omega⟩, Lib.hid ?_⟩
                rw [HE.out, HRQ.out, HS.out, hc, HQ.out]
                exact ahead_snoc _ _ _
              case measure => simp [intOf]; omega
            · have hn' : ((n : Int) == 0) = false := by rw [beq_eq_false_iff_ne]; omega
              have hu3 := tok_up huw hB' (.int .i64 kk) (.string ⟨x.toArray⟩) (.int .i64 v) (.int .i64 0) (.int .i64 0)
              have hu4 := HA.out.up.trans_ext hu3
              clear hb2 hB hB' hu3
              go_wp2_with fail
              refine bodyPost_ret (v := .tuple #[.slice none 0 0, .int .i64 L, .int .i64 c, .int .i64 n]) (by simp [results, Tryd.results14, go_sem]) rfl ⟨Or.inr ⟨L, c, n, ?_, hn, rfl⟩, hu4⟩
              rw [HLT.out, HE.out, HRQ.out, HS.out, hc, ahead_error]
          | false =>
            have HIN := Lib.hid hin
            go_wp2_with fail
            refine (HK.out _ _).mono ?_
            rintro e wb ⟨rfl, hwb⟩
            have hwb' := hwb.symm
            subst hwb'
            cases hmk : lxMark b with
            | true =>
              have HMK := Lib.hid hmk
              have hx3 : (ByteArray.mk s.toArray).extract k (k + 1) = ⟨[b].toArray⟩ := by rw [ext_to, hd.out]; rfl
              have HMX := Lib.hid (HA.out.ext ((Upto.refl [] wr).alloc (.cells #[.int .i64 4, .string ⟨[b].toArray⟩, .int .i64 0, .int .i64 L, .int .i64 c] 80)))
              have hrow := (HMX.out.ext ((Upto.refl [] _).alloc (.cells #[.int .i64 4, .string ⟨[b].toArray⟩, .int .i64 0, .int .i64 L, .int .i64 c] 80))).row
              have hsrc := cells_at (l := tkC ⟨4, [b], 0, L, c⟩) (new_at1 wr (.cells #[.int .i64 4, .string ⟨[b].toArray⟩, .int .i64 0, .int .i64 L, .int .i64 c] 80) (.cells #[.int .i64 4, .string ⟨[b].toArray⟩, .int .i64 0, .int .i64 L, .int .i64 c] 80))
              go_wp2_with (at_builtin; refine wpList_app _ rfl (.tmp 68) (.tmp 70) 28 rfl 80 i0 (.agg #[.int .i64 0, .string ⟨#[]⟩, .int .i64 0, .int .i64 0, .int .i64 0]) 5 48 Tryd.underlying28 HI.out HZ0.out HZ1.out HZ2.out rfl (by decide) (.slice va acc.length vc) acc.length _ rfl hrow ⟨wr.heap.size + 1, 0, none⟩ 1 1 (tkC ⟨4, [b], 0, L, c⟩) rfl rfl hsrc tkC_one (by unfold maxLen; omega) (by omega) ?_; intro vb vd w4 ho4 hu4 hw4; have HM4 := Lib.hid (HMX.out.app (t := ⟨4, [b], 0, L, c⟩) ho4 hu4 hw4); clear hrow hsrc ho4 hu4 hw4)
              go_roundw
              case rel => exact ⟨k + 1, L, c + 1, acc ++ [⟨4, [b], 0, L, c⟩], by omega, by go_num, rfl, by go_num, HM4.out, Lib.hid ⟨by simp; omega, by omega, by omega⟩, Lib.hid (by rw [HE.out, hd.out, lexS_mark HBL.out HMK.out, ahead_snoc])⟩
              case measure => simp [intOf]; omega
            | false =>
              have HMK := Lib.hid hmk
              have hu4 := HA.out.up.alloc (.cells #[.int .i64 0, .string ⟨#[]⟩, .int .i64 0, .int .i64 0, .int .i64 0] 80)
              go_wp2_with fail
              refine bodyPost_ret (v := .tuple #[.slice none 0 0, .int .i64 L, .int .i64 c, .int .i64 3]) (by simp [results, Tryd.results14, go_sem]) rfl ⟨Or.inr ⟨L, c, 3, ?_, by decide, rfl⟩, hu4⟩
              rw [HLT.out, HE.out, hd.out, lexS_bad HBL.out HMK.out HIN.out, ahead_error]
      · have hge' : ¬ (k : Int) < s.length := by omega
        have hks := Lib.hid (show k = s.length by omega)
        have hrow := (HA.out.ext ((Upto.refl [] wr).alloc (.cells #[.int .i64 0, .string ⟨#[]⟩, .int .i64 0, .int .i64 L, .int .i64 c] 80))).row
        have hsrc := cells_at (l := tkC ⟨0, [], 0, L, c⟩) (new_at wr (.cells #[.int .i64 0, .string ⟨#[]⟩, .int .i64 0, .int .i64 L, .int .i64 c] 80))
        go_wp2_with (at_builtin; refine wpList_app _ rfl (.tmp 78) (.tmp 82) 28 rfl 80 i0 (.agg #[.int .i64 0, .string ⟨#[]⟩, .int .i64 0, .int .i64 0, .int .i64 0]) 5 48 Tryd.underlying28 HI.out HZ0.out HZ1.out HZ2.out rfl (by decide) (.slice va acc.length vc) acc.length _ rfl hrow ⟨wr.heap.size, 0, none⟩ 1 1 (tkC ⟨0, [], 0, L, c⟩) rfl rfl hsrc tkC_one (by unfold maxLen; omega) (by omega) ?_; intro vb vd w4 ho4 hu4 hw4; have hM4 := HA.out.app (t := ⟨0, [], 0, L, c⟩) ho4 hu4 hw4; clear hrow hsrc ho4 hu4 hw4)
        refine bodyPost_ret (v := .tuple #[.slice vb (acc.length + 1) vd, .int .i64 0, .int .i64 0, .int .i64 0]) (by simp [results, Tryd.results14, go_sem]) rfl ⟨Or.inl ⟨acc ++ [⟨0, [], 0, L, c⟩], _, ?_, rfl, Toks.of_row hM4.row⟩, hM4.up⟩
        rw [HLT.out, HE.out, hks.out, List.drop_length, lexS_nil, ahead_ok]
end Go.Proofs.YtkhbpebpljdifaaDoor
