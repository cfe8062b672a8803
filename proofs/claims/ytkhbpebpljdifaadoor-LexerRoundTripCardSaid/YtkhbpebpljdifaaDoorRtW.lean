/- The walk of LexerRoundTrip. -/
import Derived.Test.YtkhbpebpljdifaaDoorRt
import Derived.Test.YtkhbpebpljdifaaDoorJn
import Derived.Test.YtkhbpebpljdifaaDoorEq
import Derived.Deep.QuietTactic
namespace Go.Proofs.YtkhbpebpljdifaaDoor
open Go.RowKit Go.PL Go.Maps

theorem joinR_of {l : List ITok} {xs : List (List UInt8)} {e : Ending} {u w' : World} (hj : joinF l = some xs) (h : JoinR l e ∧ Upto [] u w') : e = .returned (.tuple #[.string ⟨(Lib.join xs [32]).toArray⟩, .int .i64 0]) ∧ Upto [] u w' := by
  refine ⟨?_, h.2⟩
  rcases h.1 with ⟨l, h1, h2⟩ | ⟨h1, h2⟩
  · rw [hj] at h1; cases h1; exact h2
  · rw [hj] at h1; cases h1
def blkC : List Value := [.string ⟨#[32]⟩, .string ⟨#[10]⟩, .string ⟨#[9]⟩, .string ⟨#[13, 10, 32]⟩, .string ⟨#[32, 9, 32]⟩]
theorem blkC_at (j : Nat) (h : j < 5) : blkC[j]? = some (.string ⟨(blk5 j).toArray⟩) := by
  rcases j with _ | _ | _ | _ | _ | j <;> first | rfl | omega

set_option maxRecDepth 100000 in
set_option maxHeartbeats 12800000 in
theorem lexerRoundTrip_walk (s : List UInt8) (z : Int) (hs : s.length ≤ maxLen) (hz : 0 ≤ z ∧ z ≤ 255) (w : World) (he : Env w) : Calls Tryd.prog 10 #[.string ⟨s.toArray⟩, .int .u8 z] w fun e w' => e = .returned (.bool true) ∧ Upto [] w w' := by
  obtain ⟨m, rfl⟩ : ∃ m : Nat, z = m := ⟨z.toNat, by omega⟩
  have hm : (m : Int) ≤ 255 := hz.2
  have hsz : (ByteArray.mk s.toArray).size = s.length := rfl
  have hq : (s.take 3000).length ≤ 3000 := by rw [List.length_take]; omega
  have HK := Lib.hid knownL_calls
  unfold maxLen at hs
  have hx := cut3000 s
  have hI : (s.length : Int) ≤ 9223372036854775807 := by omega
  have hmin0 : (0 : Int) ≤ min (s.length : Int) 3000 := by omega
  have hmin1 : min (s.length : Int) 3000 ≤ s.length := by omega
  have h0 := Lib.hid he
  generalize s.take 3000 = q at *
  have hqs : (ByteArray.mk q.toArray).size = q.length := rfl
  cases hl : lexT q with
  | error lcn =>
    obtain ⟨l, c, n⟩ := lcn
    have HT := Lib.hid (tok_err hl (by omega) l c n rfl rfl rfl)
    have hn : ((n : Int) == 0) = false := by
      rw [beq_eq_false_iff_ne]
      rcases lexT_err hl with h | h <;> omega
    have hn2 : ((n : Int) != 0) = true := by rw [bne, hn]; rfl
    clear hl he
    go_enter Tryd.func10, Tryd.ntmps10
    go_wp2_with fail
    try rw [hx]
    refine (HT.out _ h0.out).mono ?_
    rintro e w1 ⟨rfl, hu1⟩
    have hu2 := hu1.alloc (.cells #[.int .i64 l, .int .i64 c] 24)
    clear hu1
    go_wp2_with fail
    refine (HK.out _ (h0.out.ext hu2)).mono ?_
    rintro e w3 ⟨rfl, hu3⟩
    go_wp2_with fail
    go_ret
    exact ⟨rfl, hu2.trans_ext hu3⟩
  | ok ts =>
    have HT := Lib.hid (tok_ok hl (by omega))
    obtain ⟨hpos, hlen, htxt, xs, hj, hjl, ⟨us, hus, hku⟩, hbl, us2, hus2, hku2⟩ := rt_plain hq hl m
    have HJ := Lib.hid (fun u v (h : Toks u v ts) (hE : Env u) => (join_calls (ts.map ofTok) v u (Toks.I h) hE (by rw [List.length_map]; omega) (by
      intro t ht
      obtain ⟨t', ht', rfl⟩ := List.mem_map.1 ht
      have := htxt t' ht'
      show t'.text.length ≤ 100000
      omega)).mono fun e w' (h : JoinR (ts.map ofTok) e ∧ Upto [] u w') => joinR_of hj h)
    generalize Lib.join xs [32] = J at *
    have HT2 := Lib.hid (tok_ok hus (by omega))
    have HEQ := Lib.hid (fun (va vb : Value) (u : World) (h1 : Toks u va us) (h2 : Toks u vb ts) => equal_calls us ts va vb u h1 h2 hku (by omega))
    have HEQ2 := Lib.hid (fun (va vb : Value) (u : World) (h1 : Toks u va us2) (h2 : Toks u vb ts) => equal_calls us2 ts va vb u h1 h2 hku2 (by omega))
    have hb0 := blk5_len (m % 5)
    have HBL := Lib.hid hbl
    have hjs : (ByteArray.mk J.toArray).size = J.length := rfl
    have HT3 := Lib.hid (tok_ok hus2 (by rw [List.length_append]; have := hbl ts.length (Nat.le_refl _); rw [List.take_of_length_le (Nat.le_refl _)] at this; omega))
    have HTX := Lib.hid htxt
    have hnp : ((ts.length : Int) == 0) = false := by rw [beq_eq_false_iff_ne]; omega
    clear hl he hj hjl hus hku hbl hus2 hku2 htxt
    go_enter Tryd.func10, Tryd.ntmps10
    go_wp2_with fail
    try rw [hx]
    refine (HT.out _ h0.out).mono ?_
    rintro e w1 ⟨v, rfl, hv, hu1⟩
    have hu2 := hu1.alloc (.cells #[.int .i64 0, .int .i64 0] 24)
    have hv2 := hv.ext ((Upto.refl [] w1).alloc (.cells #[.int .i64 0, .int .i64 0] 24))
    clear hu1 hv
    go_wp2_with fail
    refine (HJ.out _ _ hv2 (h0.out.ext hu2)).mono ?_
    rintro e w3 ⟨rfl, hu3⟩
    have hu4 := hu2.trans_ext hu3
    have hv4 := hv2.ext hu3
    clear hu2 hu3 hv2
    go_wp2_with fail
    refine (HT2.out _ (h0.out.ext hu4)).mono ?_
    rintro e w5 ⟨v2, rfl, hv5, hu5⟩
    have hu6 := (hu4.trans_ext hu5).alloc (.cells #[.int .i64 0, .int .i64 0] 24)
    have hv6 := (hv4.ext hu5).ext ((Upto.refl [] w5).alloc (.cells #[.int .i64 0, .int .i64 0] 24))
    have hx6 := hv5.ext ((Upto.refl [] w5).alloc (.cells #[.int .i64 0, .int .i64 0] 24))
    clear hu4 hu5 hv4 hv5
    go_wp2_with fail
    refine (HEQ.out _ _ _ hx6 hv6).mono ?_
    rintro e w7 ⟨rfl, hu7⟩
    have hu8 := hu6.trans_ext hu7
    have hv8 := hv6.ext hu7
    clear hu6 hu7 hv6 hx6
    rcases hv8.at with ⟨h1, _⟩ | ⟨g, o, vc, rfl, hat⟩
    · rw [h1] at hpos; simp at hpos
    have hbk := blkC_at (m % 5) (Nat.mod_lt _ (by decide))
    unfold blkC at hbk
    go_upto_region 11 with fail
    have hu9 := hu8.alloc (.cells #[.string ⟨#[32]⟩, .string ⟨#[10]⟩, .string ⟨#[9]⟩, .string ⟨#[13, 10, 32]⟩, .string ⟨#[32, 9, 32]⟩] 9)
    have hat9 := Lib.hid (hat.ext ((Upto.refl [] w7).alloc (.cells #[.string ⟨#[32]⟩, .string ⟨#[10]⟩, .string ⟨#[9]⟩, .string ⟨#[13, 10, 32]⟩, .string ⟨#[32, 9, 32]⟩] 9)))
    have hv9 := hv8.ext ((Upto.refl [] w7).alloc (.cells #[.string ⟨#[32]⟩, .string ⟨#[10]⟩, .string ⟨#[9]⟩, .string ⟨#[13, 10, 32]⟩, .string ⟨#[32, 9, 32]⟩] 9))
    have hbc : Hid (∀ j, j < 5 → (w7.alloc (.cells #[.string ⟨#[32]⟩, .string ⟨#[10]⟩, .string ⟨#[9]⟩, .string ⟨#[13, 10, 32]⟩, .string ⟨#[32, 9, 32]⟩] 9)).cell? ⟨w7.heap.size, j, none⟩ = some (.string ⟨(blk5 j).toArray⟩)) := Lib.hid (fun j hj => by
      have h1 := cell_of (new_at w7 (.cells #[.string ⟨#[32]⟩, .string ⟨#[10]⟩, .string ⟨#[9]⟩, .string ⟨#[13, 10, 32]⟩, .string ⟨#[32, 9, 32]⟩] 9)) j
      rw [h1]
      show (blkC.toArray)[j]? = _
      rw [List.getElem?_toArray]
      exact blkC_at j hj)
    generalize w7.alloc (.cells #[.string ⟨#[32]⟩, .string ⟨#[10]⟩, .string ⟨#[9]⟩, .string ⟨#[13, 10, 32]⟩, .string ⟨#[32, 9, 32]⟩] 9) = W9 at *
    generalize w7.heap.size = B9 at *
    clear hat hu8 hv8 hbk
    generalize hnn : ts.length = n at *
    have hn1 : (n : Int) ≤ 3001 := by omega
    go_wp2_with fail
    go_loopw [14, 15] (fun t14 t15 wr => ∃ k : Nat, k ≤ n ∧ t14 = .string ⟨(blk5 (m % 5) ++ blks m (ts.take k) 0).toArray⟩ ∧ t15 = .int .i64 k ∧ Upto [] W9 wr) (fun _ t15 _ => n - (intOf t15).toNat)
    case atStart => exact ⟨0, by omega, by simp [blks], rfl, Upto.refl _ _⟩
    case round =>
      obtain ⟨k, hk, rfl, rfl, hup⟩ := hrel
      have hk0 : (0 : Int) ≤ k := by omega
      have hPl : (blk5 (m % 5) ++ blks m (ts.take k) 0).length ≤ 20010 := by
        have := HBL.out k hk
        rw [List.length_append]
        omega
      rcases Nat.lt_or_ge k n with hlt | hge
      · have hlt' : (k : Int) < n := by omega
        obtain ⟨t, ht⟩ : ∃ t, ts[k]? = some t := ⟨ts[k], List.getElem?_eq_getElem (by omega)⟩
        obtain ⟨-, c1, -, -, -⟩ := (hat9.out.ext hup) _ _ ht
        have hb := hbc.out ((m + k) % 5) (Nat.mod_lt _ (by decide))
        have hbw := (hup.cell (World.block_lt_of_cell? W9 _ hb) (by simp)).trans hb
        simp only [bs] at c1
        have hbl5 := blk5_len ((m + k) % 5)
        have htl := HTX.out t (List.mem_of_getElem? ht)
        have HS : Hid (blk5 (m % 5) ++ blks m (ts.take (k + 1)) 0 = blk5 (m % 5) ++ blks m (ts.take k) 0 ++ t.text ++ blk5 ((m + k) % 5)) := Lib.hid (by
          obtain ⟨h1, h2⟩ := List.getElem?_eq_some_iff.1 ht
          rw [List.take_succ_eq_append_getElem h1, h2, blks_snoc, List.length_take, Nat.min_eq_left (by omega), Nat.zero_add]
          simp)
        generalize blk5 (m % 5) ++ blks m (ts.take k) 0 = P at *
        generalize blk5 ((m + k) % 5) = bl at *
        generalize t.text = tx at *
        have hP1 : (ByteArray.mk P.toArray).size = P.length := rfl
        have hP2 : (ByteArray.mk tx.toArray).size = tx.length := rfl
        have hP3 : (ByteArray.mk bl.toArray).size = bl.length := rfl
        have hc1 : ByteArray.mk P.toArray ++ ByteArray.mk tx.toArray = ⟨(P ++ tx).toArray⟩ := by rw [ByteArray.mk_append_mk]
        have hc2 : ByteArray.mk (P ++ tx).toArray ++ ByteArray.mk bl.toArray = ⟨(P ++ tx ++ bl).toArray⟩ := by rw [ByteArray.mk_append_mk]
        have hP4 : (ByteArray.mk (P ++ tx).toArray).size = P.length + tx.length := by show (P ++ tx).toArray.size = _; simp
        have HUP := Lib.hid hup
        clear ht hb hup
        go_wp2_with fail
        go_quiet (fail)
        have huq : Upto [] W9 (wr.drewN nq) := HUP.out.drewN nq
        clear c1 hbw HUP
        generalize wr.drewN nq = wq at *
        go_wp2_with fail
        go_roundw
        case rel => exact ⟨k + 1, by omega, by rw [HS.out, List.append_assoc], by go_num, huq⟩
        case measure => simp [intOf]; omega
      · have hge' : ¬ (k : Int) < n := by omega
        have hu10 := hu9.trans_ext hup
        have hv10 := hv9.ext hup
        have hkk : ts.take k = ts := List.take_of_length_le (by omega)
        rw [hkk]
        clear hup hPl
        generalize blk5 (m % 5) ++ blks m ts 0 = P at *
        go_wp2_with fail
        refine (HT3.out _ (h0.out.ext hu10)).mono ?_
        rintro e w11 ⟨v3, rfl, hv11, hu11⟩
        have hu12 := (hu10.trans_ext hu11).alloc (.cells #[.int .i64 0, .int .i64 0] 24)
        have hv12 := (hv10.ext hu11).ext ((Upto.refl [] w11).alloc (.cells #[.int .i64 0, .int .i64 0] 24))
        have hx12 := hv11.ext ((Upto.refl [] w11).alloc (.cells #[.int .i64 0, .int .i64 0] 24))
        clear hu10 hu11 hv10 hv11
        go_wp2_with fail
        refine (HK.out _ (h0.out.ext hu12)).mono ?_
        rintro e w13 ⟨rfl, hu13⟩
        have hu14 := hu12.trans_ext hu13
        have hv14 := hv12.ext hu13
        have hx14 := hx12.ext hu13
        clear hu12 hu13 hv12 hx12
        go_wp2_with fail
        refine (HEQ2.out _ _ _ hx14 hv14).mono ?_
        rintro e w15 ⟨rfl, hu15⟩
        go_wp2_with fail
        go_ret
        exact ⟨rfl, hu14.trans_ext hu15⟩
end Go.Proofs.YtkhbpebpljdifaaDoor
