/- SemiringNatural: the walk. -/
import Derived.Test.YtifellalnojomaaDoorNum
import Derived.Test.YtifellalnojomaaDoorKnown
namespace Go.Proofs.YtifellalnojomaaDoor
open Go.RowKit Go.PL Go.Maps

theorem W32_len {n : Nat} (h : n < 18446744073709551616) : (W32 n).length ≤ 2 := by
  have hl := trim_len [n % 4294967296, n / 4294967296] (by
    intro x hx
    simp at hx
    rcases hx with rfl | rfl <;> omega)
  rw [two_val] at hl
  rw [← hl]
  exact trimN_le _

set_option maxRecDepth 100000 in
set_option maxHeartbeats 400000 in
theorem nequal_calls (x y : Nat) (va vb : Option Addr) (ca cb : Nat) (w : World) (ha : NumS w va ca x) (hb : NumS w vb cb y) (hla : (W32 x).length ≤ 100000000000) (hlb : (W32 y).length ≤ 100000000000) :
    Calls Tryd.prog 39 #[.agg #[.slice va (W32 x).length ca], .agg #[.slice vb (W32 y).length cb]] w fun e w' => e = .returned (.bool (decide (x = y))) ∧ Upto [] w w' := by
  have hup : Upto [] w ((w.alloc (.cells #[.slice va (W32 x).length ca] 45)).alloc (.cells #[.slice vb (W32 y).length cb] 45)) := ((Upto.refl [] w).alloc _).alloc _
  have H := Lib.hid (eqW va vb ca cb (W32 x) (W32 y) _ (ha.ext hup) (hb.ext hup) hla hlb)
  have hd : decide (W32 x = W32 y) = decide (x = y) := by
    rw [Bool.eq_iff_iff]
    simp only [decide_eq_true_eq]
    exact ⟨W32_inj, fun h => by rw [h]⟩
  rw [hd] at H
  clear ha hb hd
  go_enter Tryd.func39, Tryd.ntmps39
  go_wp2_with fail
  refine H.out.mono ?_
  rintro e w3 ⟨rfl, j, rfl⟩
  go_wp2
  go_ret
  exact ⟨rfl, hup.drewN j⟩
set_option maxRecDepth 100000 in
set_option maxHeartbeats 400000 in
theorem nsame_calls (x y : Nat) (va vb : Option Addr) (ca cb : Nat) (w : World) (ha : NumS w va ca x) (hb : NumS w vb cb y) (hla : (W32 x).length ≤ 100000000000) (hlb : (W32 y).length ≤ 100000000000) :
    Calls Tryd.prog 40 #[.agg #[], .agg #[.slice va (W32 x).length ca], .agg #[.slice vb (W32 y).length cb]] w fun e w' => e = .returned (.bool (decide (x = y))) ∧ Upto [] w w' := by
  have hup : Upto [] w (((w.alloc (.cells #[] 42)).alloc (.cells #[.slice va (W32 x).length ca] 45)).alloc (.cells #[.slice vb (W32 y).length cb] 45)) := (((Upto.refl [] w).alloc _).alloc _).alloc _
  have H := Lib.hid (nequal_calls x y va vb ca cb _ (ha.ext hup) (hb.ext hup) hla hlb)
  clear ha hb
  go_enter Tryd.func40, Tryd.ntmps40
  go_wp2_with fail
  refine H.out.mono ?_
  rintro e w3 ⟨rfl, hu3⟩
  go_wp2
  go_ret
  exact ⟨rfl, hup.trans_ext hu3⟩

set_option maxRecDepth 100000 in
set_option maxHeartbeats 1000000 in
theorem natural_walk (a b : Nat) (ha : a < 4294967296) (hb : b < 4294967296) (w : World) : Calls Tryd.prog 6 #[.int .u32 a, .int .u32 b] w fun e w' => e = .returned (.bool true) ∧ Upto [] w w' := by
  have hmul : a * b < 18446744073709551616 := by
    have : a * b ≤ 4294967295 * 4294967295 := Nat.mul_le_mul (by omega) (by omega)
    omega
  have FA := Lib.hid (fromW_calls a (by omega))
  have FB := Lib.hid (fromW_calls b (by omega))
  have FS0 := fromW_calls (a + b) (by omega)
  have FM0 := fromW_calls (a * b) hmul
  rw [Int.natCast_add] at FS0
  rw [Int.natCast_mul] at FM0
  have FSq := Lib.hid FS0
  have FM := Lib.hid FM0
  have F1 := Lib.hid (fromW_calls 1 (by omega))
  have HZ := Lib.hid nzero_calls
  have HO := Lib.hid none_calls
  have HI := Lib.hid isZero_calls
  have HK := Lib.hid known_calls
  have hla := W32_len (n := a) (by omega)
  have hlb := W32_len (n := b) (by omega)
  have hls := W32_len (n := a + b) (by omega)
  have hlm := W32_len hmul
  have hl1 := W32_len (n := 1) (by omega)
  have hm0 : (0 : Int) ≤ (a : Int) * b := by have := Int.natCast_nonneg (a * b); rwa [Int.natCast_mul] at this
  have hm1 : (a : Int) * b ≤ 18446744073709551615 := by have := Int.ofNat_le.2 (show a * b ≤ 18446744073709551615 by omega); simpa [Int.natCast_mul] using this
  have hu0 : Upto [] w (w.alloc (.cells #[] 42)) := (Upto.refl [] w).alloc _
  clear hmul FS0 FM0
  go_enter Tryd.func6, Tryd.ntmps6
  go_wp2_with fail
  refine (FA.out _).mono ?_
  rintro e w1 ⟨g1, rfl, n1, hu1⟩
  replace hu1 := hu0.trans_ext hu1
  go_wp2_with fail
  refine (FB.out _).mono ?_
  rintro e w2 ⟨g2, rfl, n2, hu2⟩
  replace n1 := n1.ext hu2
  replace hu2 := hu1.trans_ext hu2
  have b6 := alloc_old (new_at w2 (.cells #[.slice (some ⟨g1, 0, none⟩) (W32 a).length 2] 45)) (.cells #[.slice (some ⟨g2, 0, none⟩) (W32 b).length 2] 45)
  have b7 := new_at1 w2 (.cells #[.slice (some ⟨g1, 0, none⟩) (W32 a).length 2] 45) (.cells #[.slice (some ⟨g2, 0, none⟩) (W32 b).length 2] 45)
  have hst : Upto [] w2 ((w2.alloc (.cells #[.slice (some ⟨g1, 0, none⟩) (W32 a).length 2] 45)).alloc (.cells #[.slice (some ⟨g2, 0, none⟩) (W32 b).length 2] 45)) := ((Upto.refl [] w2).alloc _).alloc _
  replace n1 := n1.ext hst
  replace n2 := n2.ext hst
  replace hu2 := hu2.trans_ext hst
  have D1 := Lib.hid (show decide ((W32 0).length = 0) = true by rw [W32_zero]; rfl)
  clear hst hu0 hu1 FA FB
  go_wp2_with fail
  refine (HZ.out _).mono ?_
  rintro e w3 ⟨gz, rfl, nz, hv⟩
  replace b6 := hv.at b6 (by simp)
  replace b7 := hv.at b7 (by simp)
  replace n1 := n1.ext hv
  replace n2 := n2.ext hv
  replace hu2 := hu2.trans_ext hv
  clear hv
  have q6 := cell_of b6 0
  have q7 := cell_of b7 0
  simp only [List.getElem?_toArray, List.getElem?_cons_zero] at q6 q7
  go_wp2_with fail
  refine (HI.out _ _ _ _).mono ?_
  rintro e w4 ⟨rfl, hv⟩
  replace b6 := hv.at b6 (by simp)
  replace b7 := hv.at b7 (by simp)
  replace n1 := n1.ext hv
  replace n2 := n2.ext hv
  replace hu2 := hu2.trans_ext hv
  clear hv
  have q6 := cell_of b6 0
  have q7 := cell_of b7 0
  simp only [List.getElem?_toArray, List.getElem?_cons_zero] at q6 q7
  rw [D1.out]
  clear nz
  go_wp2_with fail
  refine (HO.out _).mono ?_
  rintro e w5 ⟨go, rfl, no, hv⟩
  replace b6 := hv.at b6 (by simp)
  replace b7 := hv.at b7 (by simp)
  replace n1 := n1.ext hv
  replace n2 := n2.ext hv
  replace hu2 := hu2.trans_ext hv
  clear hv
  have q6 := cell_of b6 0
  have q7 := cell_of b7 0
  simp only [List.getElem?_toArray, List.getElem?_cons_zero] at q6 q7
  go_wp2_with fail
  refine (F1.out _).mono ?_
  rintro e w6 ⟨g3, rfl, n3, hv⟩
  replace b6 := hv.at b6 (by simp)
  replace b7 := hv.at b7 (by simp)
  replace n1 := n1.ext hv
  replace n2 := n2.ext hv
  replace no := no.ext hv
  replace hu2 := hu2.trans_ext hv
  clear hv
  have q6 := cell_of b6 0
  have q7 := cell_of b7 0
  simp only [List.getElem?_toArray, List.getElem?_cons_zero] at q6 q7
  go_wp2_with fail
  refine (nequal_calls 1 1 _ _ _ _ _ no n3 (by omega) (by omega)).mono ?_
  rintro e w7 ⟨rfl, hv⟩
  replace b6 := hv.at b6 (by simp)
  replace b7 := hv.at b7 (by simp)
  replace n1 := n1.ext hv
  replace n2 := n2.ext hv
  replace hu2 := hu2.trans_ext hv
  clear hv
  have q6 := cell_of b6 0
  have q7 := cell_of b7 0
  simp only [List.getElem?_toArray, List.getElem?_cons_zero] at q6 q7
  simp only [show decide ((1 : Nat) = 1) = true from rfl]
  clear no n3
  go_wp2_with fail
  refine (nadd_calls a b _ _ _ _ _ n1 n2 (by omega) (by omega)).mono ?_
  rintro e w8 ⟨g4, c4, rfl, n4, hv⟩
  replace b6 := hv.at b6 (by simp)
  replace b7 := hv.at b7 (by simp)
  replace n1 := n1.ext hv
  replace n2 := n2.ext hv
  replace hu2 := hu2.trans_ext hv
  clear hv
  have q6 := cell_of b6 0
  have q7 := cell_of b7 0
  simp only [List.getElem?_toArray, List.getElem?_cons_zero] at q6 q7
  go_wp2_with fail
  refine (FSq.out _).mono ?_
  rintro e w9 ⟨g5, rfl, n5, hv⟩
  replace b6 := hv.at b6 (by simp)
  replace b7 := hv.at b7 (by simp)
  replace n1 := n1.ext hv
  replace n2 := n2.ext hv
  replace n4 := n4.ext hv
  replace hu2 := hu2.trans_ext hv
  clear hv
  have q6 := cell_of b6 0
  have q7 := cell_of b7 0
  simp only [List.getElem?_toArray, List.getElem?_cons_zero] at q6 q7
  go_wp2_with fail
  refine (nequal_calls (a + b) (a + b) _ _ _ _ _ n4 n5 (by omega) (by omega)).mono ?_
  rintro e w10 ⟨rfl, hv⟩
  replace b6 := hv.at b6 (by simp)
  replace b7 := hv.at b7 (by simp)
  replace n1 := n1.ext hv
  replace n2 := n2.ext hv
  replace hu2 := hu2.trans_ext hv
  clear hv
  have q6 := cell_of b6 0
  have q7 := cell_of b7 0
  simp only [List.getElem?_toArray, List.getElem?_cons_zero] at q6 q7
  rw [show decide (a + b = a + b) = true from decide_eq_true rfl]
  clear n4 n5
  go_wp2_with fail
  refine (nmul_calls a b _ _ _ _ _ n1 n2 (by omega) (by omega)).mono ?_
  rintro e w11 ⟨g6, c6, rfl, n6, hv⟩
  replace b6 := hv.at b6 (by simp)
  replace b7 := hv.at b7 (by simp)
  replace n1 := n1.ext hv
  replace n2 := n2.ext hv
  replace hu2 := hu2.trans_ext hv
  clear hv
  have q6 := cell_of b6 0
  have q7 := cell_of b7 0
  simp only [List.getElem?_toArray, List.getElem?_cons_zero] at q6 q7
  go_wp2_with fail
  refine (FM.out _).mono ?_
  rintro e w12 ⟨g7, rfl, n7, hv⟩
  replace b6 := hv.at b6 (by simp)
  replace b7 := hv.at b7 (by simp)
  replace n1 := n1.ext hv
  replace n2 := n2.ext hv
  replace n6 := n6.ext hv
  replace hu2 := hu2.trans_ext hv
  clear hv
  have q6 := cell_of b6 0
  have q7 := cell_of b7 0
  simp only [List.getElem?_toArray, List.getElem?_cons_zero] at q6 q7
  go_wp2_with fail
  refine (nequal_calls (a * b) (a * b) _ _ _ _ _ n6 n7 (by omega) (by omega)).mono ?_
  rintro e w13 ⟨rfl, hv⟩
  replace b6 := hv.at b6 (by simp)
  replace b7 := hv.at b7 (by simp)
  replace n1 := n1.ext hv
  replace n2 := n2.ext hv
  replace hu2 := hu2.trans_ext hv
  clear hv
  have q6 := cell_of b6 0
  have q7 := cell_of b7 0
  simp only [List.getElem?_toArray, List.getElem?_cons_zero] at q6 q7
  rw [show decide (a * b = a * b) = true from decide_eq_true rfl]
  clear n6 n7
  go_wp2_with fail
  refine (nsame_calls a b _ _ _ _ _ n1 n2 (by omega) (by omega)).mono ?_
  rintro e w14 ⟨rfl, hv⟩
  replace b6 := hv.at b6 (by simp)
  replace b7 := hv.at b7 (by simp)
  replace n1 := n1.ext hv
  replace n2 := n2.ext hv
  replace hu2 := hu2.trans_ext hv
  clear hv
  have q6 := cell_of b6 0
  have q7 := cell_of b7 0
  simp only [List.getElem?_toArray, List.getElem?_cons_zero] at q6 q7
  have DE : decide (a = b) = ((a : Int) == (b : Int)) := by
    rw [Bool.eq_iff_iff]
    simp
    omega
  rcases Decidable.em (a = b) with hab | hab
  · subst hab
    rw [show decide (a = a) = true from decide_eq_true rfl]
    go_wp2_with fail
    refine (HK.out _).mono ?_
    rintro e w20 ⟨rfl, hv⟩
    go_wp2
    go_ret
    exact ⟨rfl, hu2.trans_ext hv⟩
  · rw [show decide (a = b) = false from decide_eq_false hab]
    have hne : ¬ (a : Int) = b := by omega
    have HN := Lib.hid hab
    clear hab DE
    go_wp2_with fail
    refine (HK.out _).mono ?_
    rintro e w20 ⟨rfl, hv⟩
    go_wp2
    go_ret
    refine ⟨?_, hu2.trans_ext hv⟩
    have hbq : ((a : Int) == (b : Int)) = false := by simpa using hne
    first
      | exact ret_bool (show (!((a : Int) == (b : Int))) = true by rw [hbq]; rfl)
      | exact rfl
end Go.Proofs.YtifellalnojomaaDoor
