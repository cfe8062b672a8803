/- The walk of LexerConcatenation. -/
import Derived.Test.YtkhbpebpljdifaaDoorPos
import Derived.Deep.QuietTactic
namespace Go.Proofs.YtkhbpebpljdifaaDoor
open Go.RowKit Go.PL Go.Maps

/-- the lines of an answer are not more than the bytes and one -/
theorem lexS_lines (s : List UInt8) (l c : Nat) : (∀ ts, lexS s l c = .ok ts → ∀ t ∈ ts, t.line ≤ l + s.length) ∧ ∀ l' c' n, lexS s l c = .error (l', c', n) → l' ≤ l + s.length := by
  refine lex_ind (M := fun s l c R => (∀ ts, R = .ok ts → ∀ t ∈ ts, t.line ≤ l + s.length) ∧ ∀ l' c' n, R = .error (l', c', n) → l' ≤ l + s.length) ?_ ?_ ?_ ?_ ?_ ?_ ?_ s.length s (Nat.le_refl _) l c
  · intro l c
    refine ⟨fun ts h t ht => ?_, fun l' c' n h => (by cases h)⟩
    cases h
    simp at ht
    subst ht
    simp
  · intro b s l c _ _ ih
    refine ⟨fun ts h t ht => ?_, fun l' c' n h => ?_⟩
    · have := ih.1 ts h t ht; simp; omega
    · have := ih.2 _ _ _ h; simp; omega
  · intro b s l c _ _ ih
    refine ⟨fun ts h t ht => ?_, fun l' c' n h => ?_⟩
    · have := ih.1 ts h t ht; simp; omega
    · have := ih.2 _ _ _ h; simp; omega
  · intro b s l c _ ih
    cases hR : lexS s l (c + 1) with
    | error e =>
      rw [hR] at ih
      refine ⟨fun ts h => (by cases h), fun l' c' n h => ?_⟩
      cases h
      have := ih.2 _ _ _ rfl; simp; omega
    | ok us =>
      rw [hR] at ih
      refine ⟨fun ts h t ht => ?_, fun l' c' n h => (by cases h)⟩
      cases h
      rcases List.mem_cons.1 ht with rfl | ht
      · simp
      · have := ih.1 _ rfl t ht; simp; omega
  · intro r s l c k v _ _ _ _ ih
    cases hR : lexS s l (c + r.length) with
    | error e =>
      rw [hR] at ih
      refine ⟨fun ts h => (by cases h), fun l' c' n h => ?_⟩
      cases h
      have := ih.2 _ _ _ rfl; simp; omega
    | ok us =>
      rw [hR] at ih
      refine ⟨fun ts h t ht => ?_, fun l' c' n h => (by cases h)⟩
      cases h
      rcases List.mem_cons.1 ht with rfl | ht
      · simp
      · have := ih.1 _ rfl t ht; simp; omega
  · intro r s l c e _ _ _ _
    refine ⟨fun ts h => (by cases h), fun l' c' n h => ?_⟩
    cases h
    simp
  · intro b s l c _ _ _
    refine ⟨fun ts h => (by cases h), fun l' c' n h => ?_⟩
    cases h
    simp
theorem lexT_lines {s : List UInt8} {ts : List Tok} (h : lexT s = .ok ts) : ∀ t ∈ ts, t.line ≤ 65537 := by
  unfold lexT at h
  split at h
  · cases h
  · intro t ht
    have := (lexS_lines s 1 1).1 ts h t ht
    omega
theorem lexT_lineE {s : List UInt8} {l c n : Nat} (h : lexT s = .error (l, c, n)) : l ≤ 65537 := by
  unfold lexT at h
  split at h
  · cases h; omega
  · have := (lexS_lines s 1 1).2 _ _ _ h
    omega

set_option maxRecDepth 100000 in
set_option maxHeartbeats 12800000 in
theorem lexerConcatenation_walk (a b : List UInt8) (ha : a.length ≤ maxLen) (hb : b.length ≤ maxLen) (w : World) (he : Env w) : Calls Tryd.prog 5 #[.string ⟨a.toArray⟩, .string ⟨b.toArray⟩] w fun e w' => e = .returned (.bool true) ∧ Upto [] w w' := by
  have hsa : (ByteArray.mk a.toArray).size = a.length := rfl
  have hsb : (ByteArray.mk b.toArray).size = b.length := rfl
  have hqa : (a.take 3000).length ≤ 3000 := by rw [List.length_take]; omega
  have hqb : (b.take 3000).length ≤ 3000 := by rw [List.length_take]; omega
  have HK := Lib.hid knownL_calls
  unfold maxLen at ha hb
  have hxa := cut3000 a
  have hxb := cut3000 b
  have hIa : (a.length : Int) ≤ 9223372036854775807 := by omega
  have hIb : (b.length : Int) ≤ 9223372036854775807 := by omega
  have hma0 : (0 : Int) ≤ min (a.length : Int) 3000 := by omega
  have hma1 : min (a.length : Int) 3000 ≤ a.length := by omega
  have hmb0 : (0 : Int) ≤ min (b.length : Int) 3000 := by omega
  have hmb1 : min (b.length : Int) 3000 ≤ b.length := by omega
  have h0 := Lib.hid he
  generalize a.take 3000 = p at *
  generalize b.take 3000 = q at *
  have hps : (ByteArray.mk p.toArray).size = p.length := rfl
  have hqs : (ByteArray.mk q.toArray).size = q.length := rfl
  have hc1 : (ByteArray.mk p.toArray ++ ByteArray.mk #[10]) = ⟨(p ++ [10]).toArray⟩ := by
    have := ByteArray.mk_append_mk p [10]
    simpa using this
  have hc2 : (ByteArray.mk (p ++ [10]).toArray ++ ByteArray.mk q.toArray) = ⟨(p ++ 10 :: q).toArray⟩ := by
    rw [ByteArray.mk_append_mk, List.append_assoc]
    rfl
  have hps2 : (ByteArray.mk (p ++ [10]).toArray).size = p.length + 1 := by show (p ++ [10]).toArray.size = _; simp
  have hcl : (p ++ 10 :: q).length ≤ 10000 := by simp; omega
  obtain ⟨hcatE, hcatO⟩ := lexT_cat hqa hqb
  cases hla : lexT p with
  | error lcn =>
    obtain ⟨l, c, n⟩ := lcn
    have hz := hcatE _ hla
    have HA := Lib.hid (tok_err hla (by omega) l c n rfl rfl rfl)
    have HZ := Lib.hid (tok_err hz (by omega) l c n rfl rfl rfl)
    have HB := Lib.hid (fun u h => (tokenize_calls q u h (by omega)).mono fun e w' h => (⟨h.1.out, h.2⟩ : _ ∧ _))
    have hn : ((n : Int) == 0) = false := by
      rw [beq_eq_false_iff_ne]
      rcases lexT_err hla with h | h <;> omega
    have hn2 : ((n : Int) != 0) = true := by rw [bne, hn]; rfl
    generalize (outT (lexT q)).1 = ty at *
    generalize (outT (lexT q)).2.1 = ly at *
    generalize (outT (lexT q)).2.2.1 = cy at *
    generalize (outT (lexT q)).2.2.2 = ny at *
    clear hla hz hcatE hcatO he
    go_enter Tryd.func5, Tryd.ntmps5
    go_wp2_with fail
    go_quiet (fail)
    have huq : Upto [] w (w.drewN nq) := (Upto.refl [] w).drewN nq
    generalize w.drewN nq = w0 at *
    go_wp2_with fail
    refine (HA.out _ (h0.out.ext huq)).mono ?_
    rintro e w1 ⟨rfl, hu1⟩
    have hu2 := (huq.trans_ext hu1).alloc (.cells #[.int .i64 l, .int .i64 c] 24)
    have b2 := new_at w1 (.cells #[.int .i64 l, .int .i64 c] 24)
    clear huq hu1
    generalize hW2 : w1.alloc (.cells #[.int .i64 l, .int .i64 c] 24) = W2 at *
    generalize hB1 : w1.heap.size = B1 at *
    go_wp2_with fail
    refine (HB.out _ (h0.out.ext hu2)).mono ?_
    rintro e w3 ⟨⟨vy, rfl, hty⟩, hu3⟩
    have hu4 := (hu2.trans_ext hu3).alloc (.cells #[.int .i64 ly, .int .i64 cy] 24)
    have b4 := (hu3.alloc (.cells #[.int .i64 ly, .int .i64 cy] 24)).at b2 (by simp)
    clear hu2 hu3 b2 hty
    go_wp2_with fail
    refine (HZ.out _ (h0.out.ext hu4)).mono ?_
    rintro e w5 ⟨rfl, hu5⟩
    have hu6 := (hu4.trans_ext hu5).alloc (.cells #[.int .i64 l, .int .i64 c] 24)
    have b6 := (hu5.alloc (.cells #[.int .i64 l, .int .i64 c] 24)).at b4 (by simp)
    have z6 := new_at w5 (.cells #[.int .i64 l, .int .i64 c] 24)
    clear hu4 hu5 b4
    go_wp2_with fail
    refine (HK.out _ (h0.out.ext hu6)).mono ?_
    rintro e w7 ⟨rfl, hu7⟩
    have b8 := hu7.at b6 (by simp)
    have z8 := hu7.at z6 (by simp)
    have q0 := cell_of b8 0
    have q1 := cell_of b8 1
    have r0 := cell_of z8 0
    have r1 := cell_of z8 1
    simp only [List.getElem?_toArray, List.getElem?_cons_zero, List.getElem?_cons_succ] at q0 q1 r0 r1
    have hu8 := hu6.trans_ext hu7
    clear hu6 hu7 b6 z6 b8 z8
    go_wp2_with fail
    go_ret
    exact ⟨rfl, hu8⟩
  | ok x =>
    obtain ⟨x', lx, cx, hx, hE2, hO2⟩ := hcatO x hla
    have hxl : x.length = x'.length + 1 := by rw [hx]; simp
    have hxlast : x[x'.length]? = some ⟨0, [], 0, lx, cx⟩ := by rw [hx]; simp
    have hxs := lexT_short hla
    have HA := Lib.hid (tok_ok hla (by omega))
    have hxpos : (0 : Int) < x.length := by omega
    have hxlI : (x.length : Int) - 1 = x'.length := by omega
    have hxle : (x.length : Int) ≤ 3001 := by omega
    have hxne : ((x.length : Int) == 0) = false := by rw [beq_eq_false_iff_ne]; omega
    cases hlb : lexT q with
    | error lcn =>
      obtain ⟨l, c, n⟩ := lcn
      have hz := hE2 l c n hlb
      have HB := Lib.hid (tok_err hlb (by omega) l c n rfl rfl rfl)
      have HZ := Lib.hid (tok_err hz (by omega) (l + lx : Nat) c n rfl rfl rfl)
      have hn : ((n : Int) == 0) = false := by
        rw [beq_eq_false_iff_ne]
        rcases lexT_err hlb with h | h <;> omega
      have hn2 : ((n : Int) != 0) = true := by rw [bne, hn]; rfl
      have HXL := Lib.hid hxlast
      have hll : (l : Int) ≤ 1000000000 ∧ (lx : Int) ≤ 1000000000 := by
        have h1 := lexT_lines hla _ (List.mem_of_getElem? hxlast)
        have h2 := lexT_lineE hlb
        simp only at h1
        omega
      obtain ⟨hll1, hll2⟩ := hll
      have hl0 : (0 : Int) ≤ l := by omega
      have hlx0 : (0 : Int) ≤ lx := by omega
      have hsum : (l : Int) + lx = ((l + lx : Nat) : Int) := by omega
      clear hla hz hlb hcatE hcatO hE2 hO2 he hx hxlast
      generalize ((l + lx : Nat) : Int) = lz at *
      go_enter Tryd.func5, Tryd.ntmps5
      go_wp2_with fail
      go_quiet (fail)
      have huq : Upto [] w (w.drewN nq) := (Upto.refl [] w).drewN nq
      generalize w.drewN nq = w0 at *
      go_wp2_with fail
      refine (HA.out _ (h0.out.ext huq)).mono ?_
      rintro e w1 ⟨vx, rfl, htx, hu1⟩
      have hu2 := (huq.trans_ext hu1).alloc (.cells #[.int .i64 0, .int .i64 0] 24)
      have htx2 := htx.ext ((Upto.refl [] w1).alloc (.cells #[.int .i64 0, .int .i64 0] 24))
      clear huq hu1 htx
      go_wp2_with fail
      refine (HB.out _ (h0.out.ext hu2)).mono ?_
      rintro e w3 ⟨rfl, hu3⟩
      have hu4 := (hu2.trans_ext hu3).alloc (.cells #[.int .i64 l, .int .i64 c] 24)
      have b4 := new_at w3 (.cells #[.int .i64 l, .int .i64 c] 24)
      have htx4 := (htx2.ext hu3).ext ((Upto.refl [] w3).alloc (.cells #[.int .i64 l, .int .i64 c] 24))
      clear hu2 hu3 htx2
      go_wp2_with fail
      refine (HZ.out _ (h0.out.ext hu4)).mono ?_
      rintro e w5 ⟨rfl, hu5⟩
      have hu6 := (hu4.trans_ext hu5).alloc (.cells #[.int .i64 lz, .int .i64 c] 24)
      have b6 := (hu5.alloc (.cells #[.int .i64 lz, .int .i64 c] 24)).at b4 (by simp)
      have z6 := new_at w5 (.cells #[.int .i64 lz, .int .i64 c] 24)
      have htx6 := (htx4.ext hu5).ext ((Upto.refl [] w5).alloc (.cells #[.int .i64 lz, .int .i64 c] 24))
      clear hu4 hu5 b4 htx4
      rcases htx6.at with ⟨h1, _⟩ | ⟨g, o, vc, rfl, hat⟩
      · rw [h1] at hxl; simp at hxl
      obtain ⟨-, -, -, c3, -⟩ := hat _ _ HXL.out
      clear hat htx6
      go_wp2_with fail
      refine (HK.out _ (h0.out.ext hu6)).mono ?_
      rintro e w7 ⟨rfl, hu7⟩
      have b8 := hu7.at b6 (by simp)
      have z8 := hu7.at z6 (by simp)
      have q0 := cell_of b8 0
      have q1 := cell_of b8 1
      have r0 := cell_of z8 0
      have r1 := cell_of z8 1
      simp only [List.getElem?_toArray, List.getElem?_cons_zero, List.getElem?_cons_succ] at q0 q1 r0 r1
      have hu8 := hu6.trans_ext hu7
      clear hu6 hu7 b6 z6 b8 z8 c3
      go_wp2_with fail
      go_ret
      exact ⟨rfl, hu8⟩
    | ok y =>
      have hz := hO2 y hlb
      have hys := lexT_short hlb
      have HB := Lib.hid (tok_ok hlb (by omega))
      have HZ := Lib.hid (tok_ok hz (by omega))
      have hzl : (x' ++ y.map (shiftT lx)).length = x'.length + y.length := by simp
      have hypos : 0 < y.length := by
        obtain ⟨ts', l', c', h1, -⟩ := lexS_real q 1 1 y (by rw [← lexT_S hqb]; exact hlb)
        rw [h1]; simp
      have HXL := Lib.hid hxlast
      have hlx1 : (lx : Int) ≤ 1000000000 := by
        have h1 := lexT_lines hla _ (List.mem_of_getElem? hxlast)
        simp only at h1
        omega
      have hlx0 : (0 : Int) ≤ lx := by omega
      have HYLN := Lib.hid (lexT_lines hlb)
      have HZX : Hid (∀ k t, k < x'.length → x[k]? = some t → (x' ++ y.map (shiftT lx))[k]? = some t) := Lib.hid (by
        intro k t hk ht
        rw [List.getElem?_append_left hk]
        rw [hx, List.getElem?_append_left hk] at ht
        exact ht)
      have HZY : Hid (∀ k t, y[k]? = some t → (x' ++ y.map (shiftT lx))[x'.length + k]? = some (shiftT lx t)) := Lib.hid (by
        intro k t ht
        rw [List.getElem?_append_right (by omega), Nat.add_sub_cancel_left, List.getElem?_map, ht]
        rfl)
      generalize hzz : x' ++ y.map (shiftT lx) = zz at *
      generalize hxx : x'.length = nx at *
      have hzle : (zz.length : Int) = nx + y.length := by omega
      have hyle : (y.length : Int) ≤ 3001 := by omega
      have hxn : (x.length : Int) = nx + 1 := by omega
      clear hla hz hlb hcatE hcatO hE2 hO2 he hx hxlast hzz hzl hxx
      go_enter Tryd.func5, Tryd.ntmps5
      go_wp2_with fail
      go_quiet (fail)
      have huq : Upto [] w (w.drewN nq) := (Upto.refl [] w).drewN nq
      generalize w.drewN nq = w0 at *
      go_wp2_with fail
      refine (HA.out _ (h0.out.ext huq)).mono ?_
      rintro e w1 ⟨vx, rfl, htx, hu1⟩
      have hu2 := (huq.trans_ext hu1).alloc (.cells #[.int .i64 0, .int .i64 0] 24)
      have htx2 := htx.ext ((Upto.refl [] w1).alloc (.cells #[.int .i64 0, .int .i64 0] 24))
      clear huq hu1 htx
      go_wp2_with fail
      refine (HB.out _ (h0.out.ext hu2)).mono ?_
      rintro e w3 ⟨vy, rfl, hty, hu3⟩
      have hu4 := (hu2.trans_ext hu3).alloc (.cells #[.int .i64 0, .int .i64 0] 24)
      have htx4 := (htx2.ext hu3).ext ((Upto.refl [] w3).alloc (.cells #[.int .i64 0, .int .i64 0] 24))
      have hty4 := hty.ext ((Upto.refl [] w3).alloc (.cells #[.int .i64 0, .int .i64 0] 24))
      clear hu2 hu3 htx2 hty
      go_wp2_with fail
      refine (HZ.out _ (h0.out.ext hu4)).mono ?_
      rintro e w5 ⟨vz, rfl, htz, hu5⟩
      have hu6 := (hu4.trans_ext hu5).alloc (.cells #[.int .i64 0, .int .i64 0] 24)
      have htx6 := (htx4.ext hu5).ext ((Upto.refl [] w5).alloc (.cells #[.int .i64 0, .int .i64 0] 24))
      have hty6 := (hty4.ext hu5).ext ((Upto.refl [] w5).alloc (.cells #[.int .i64 0, .int .i64 0] 24))
      have htz6 := htz.ext ((Upto.refl [] w5).alloc (.cells #[.int .i64 0, .int .i64 0] 24))
      clear hu4 hu5 htx4 hty4 htz
      rcases htx6.at with ⟨h1, _⟩ | ⟨gx, ox, vcx, rfl, hatx⟩
      · rw [h1] at hxl; simp at hxl
      rcases hty6.at with ⟨h1, _⟩ | ⟨gy, oy, vcy, rfl, haty⟩
      · rw [h1] at hypos; simp at hypos
      rcases htz6.at with ⟨h1, _⟩ | ⟨gz, oz, vcz, rfl, hatz⟩
      · rw [h1] at hzle; simp at hzle; omega
      obtain ⟨-, -, -, c3, -⟩ := hatx _ _ HXL.out
      have HX := Lib.hid hatx
      have HY := Lib.hid haty
      have HZT := Lib.hid hatz
      clear hatx haty hatz htx6 hty6 htz6
      go_upto_region 14 with fail
      generalize w5.alloc (.cells #[.int .i64 0, .int .i64 0] 24) = W6 at *
      clear c3
      generalize hxln : x.length = lenx at *
      generalize hyln : y.length = leny at *
      generalize hzln : zz.length = lenz at *
      go_wp2_with fail
      go_loopw [15] (fun i wr => ∃ k : Nat, k ≤ lenz ∧ i = .int .i64 k ∧ Upto [] W6 wr) (fun i _ => lenz - (intOf i).toNat)
      case atStart => exact ⟨0, by omega, rfl, Upto.refl _ _⟩
      case round =>
        obtain ⟨k, hk, rfl, hup⟩ := hrel
        have hk0 : (0 : Int) ≤ k := by omega
        rcases Nat.lt_or_ge k lenz with hlt | hge
        · have hlt' : (k : Int) < lenz := by omega
          rcases Nat.lt_or_ge k nx with hkx | hkx
          · have hkx' : (k : Int) < nx := by omega
            have hkx2 : (k : Int) < lenx := by omega
            obtain ⟨t, ht⟩ : ∃ t, x[k]? = some t := ⟨x[k], List.getElem?_eq_getElem (by omega)⟩
            have htz := HZX.out k t hkx ht
            obtain ⟨xc0, xc1, xc2, xc3, xc4⟩ := (HX.out.ext hup) _ _ ht
            obtain ⟨zc0, zc1, zc2, zc3, zc4⟩ := (HZT.out.ext hup) _ _ htz
            clear ht htz
            have HUP := Lib.hid hup
            clear hup
            go_upto_region 18 with fail
            have x0 : ∀ u9 : Ext wr, u9.w.cell? ⟨gx, ox + k * 5, none⟩ = some (.int .i64 t.kind) := fun u9 => u9.cell xc0
            have x1 : ∀ u9 : Ext wr, u9.w.cell? ⟨gx, ox + k * 5 + 1, none⟩ = some (.string ⟨t.text.toArray⟩) := fun u9 => u9.cell xc1
            have x2 : ∀ u9 : Ext wr, u9.w.cell? ⟨gx, ox + k * 5 + 2, none⟩ = some (.int .i64 t.val) := fun u9 => u9.cell xc2
            have x3 : ∀ u9 : Ext wr, u9.w.cell? ⟨gx, ox + k * 5 + 3, none⟩ = some (.int .i64 t.line) := fun u9 => u9.cell xc3
            have x4 : ∀ u9 : Ext wr, u9.w.cell? ⟨gx, ox + k * 5 + 4, none⟩ = some (.int .i64 t.col) := fun u9 => u9.cell xc4
            have z0 : ∀ u9 : Ext wr, u9.w.cell? ⟨gz, oz + k * 5, none⟩ = some (.int .i64 t.kind) := fun u9 => u9.cell zc0
            have z1 : ∀ u9 : Ext wr, u9.w.cell? ⟨gz, oz + k * 5 + 1, none⟩ = some (.string ⟨t.text.toArray⟩) := fun u9 => u9.cell zc1
            have z2 : ∀ u9 : Ext wr, u9.w.cell? ⟨gz, oz + k * 5 + 2, none⟩ = some (.int .i64 t.val) := fun u9 => u9.cell zc2
            have z3 : ∀ u9 : Ext wr, u9.w.cell? ⟨gz, oz + k * 5 + 3, none⟩ = some (.int .i64 t.line) := fun u9 => u9.cell zc3
            have z4 : ∀ u9 : Ext wr, u9.w.cell? ⟨gz, oz + k * 5 + 4, none⟩ = some (.int .i64 t.col) := fun u9 => u9.cell zc4
            clear xc0 xc1 xc2 xc3 xc4 zc0 zc1 zc2 zc3 zc4
            refine wp_region_seg_all [] [] [0, 1, 2, 3, 4, 5, 6, 7, 8] (by kernel_rfl) (by kernel_rfl) ?_
            refine seg_plain rfl rfl rfl rfl rfl ?_
            intro K' hK'
            go_big_quiet_op
            go_big_quiet_on
            refine seg_plain rfl rfl rfl rfl rfl ?_
            intro K' hK'
            go_big_quiet_op
            go_big_quiet_on
            refine seg_plain rfl rfl rfl rfl rfl ?_
            intro K' hK'
            go_big_quiet_op
            go_big_quiet_on
            refine seg_plain rfl rfl rfl rfl rfl ?_
            intro K' hK'
            go_big_quiet_op
            go_big_quiet_on
            refine seg_plain rfl rfl rfl rfl rfl ?_
            intro K' hK'
            go_big_quiet_op
            go_big_quiet_on
            refine seg_plain rfl rfl rfl rfl rfl ?_
            intro K' hK'
            go_big_quiet_op
            go_big_quiet_on
            refine seg_plain rfl rfl rfl rfl rfl ?_
            intro K' hK'
            go_big_quiet_op
            go_big_quiet_on
            refine seg_plain rfl rfl rfl rfl rfl ?_
            intro K' hK'
            go_big_quiet_op
            go_big_quiet_on
            refine seg_plain rfl rfl rfl rfl rfl ?_
            intro K' hK'
            go_big_quiet_op
            go_big_quiet_on
            intro w9 hg
            have hv := HUP.out.trans_ext hg.up
            clear hg x0 x1 x2 x3 x4 z0 z1 z2 z3 z4
            go_wp2_with fail
            go_roundw
            case rel => exact ⟨k + 1, by omega, by go_num, hv⟩
            case measure => simp [intOf]; omega
          · obtain ⟨j, rfl⟩ : ∃ j, k = nx + j := ⟨k - nx, by omega⟩
            have hj : j < leny := by omega
            have hj0 : (0 : Int) ≤ j := by omega
            have hj1 : (j : Int) < leny := by omega
            have hkx' : ¬ ((nx + j : Nat) : Int) < nx := by omega
            have hkx2 : ((nx + j : Nat) : Int) < lenz := by omega
            have hjj : (nx : Int) + j - (nx + 1) + 1 = j := by omega
            obtain ⟨t, ht⟩ : ∃ t, y[j]? = some t := ⟨y[j], List.getElem?_eq_getElem (by omega)⟩
            have htz := HZY.out j t ht
            have htl := HYLN.out t (List.mem_of_getElem? ht)
            have htl0 : (0 : Int) ≤ t.line := by omega
            have htl1 : (t.line : Int) ≤ 65537 := by omega
            obtain ⟨yc0, yc1, yc2, yc3, yc4⟩ := (HY.out.ext hup) _ _ ht
            obtain ⟨zc0, zc1, zc2, zc3, zc4⟩ := (HZT.out.ext hup) _ _ htz
            simp only [shiftT] at zc0 zc1 zc2 zc3 zc4
            have hcast : ((t.line + lx : Nat) : Int) = (t.line : Int) + lx := by omega
            rw [hcast] at zc3
            simp only [bs] at yc1 zc1
            clear ht htz htl hcast
            go_upto_region 22 with fail
            have hua := hup.alloc (.cells #[.int .i64 t.kind, .string ⟨t.text.toArray⟩, .int .i64 t.val, .int .i64 ((t.line : Int) + lx), .int .i64 t.col] 36)
            obtain ⟨n0, n1, n2, n3, n4⟩ := tok_cells wr (.int .i64 t.kind) (.string ⟨t.text.toArray⟩) (.int .i64 t.val) (.int .i64 ((t.line : Int) + lx)) (.int .i64 t.col) 36
            have hlz := World.block_lt_of_cell? wr _ zc0
            have d0 := (((Upto.refl [] wr).alloc (.cells #[.int .i64 t.kind, .string ⟨t.text.toArray⟩, .int .i64 t.val, .int .i64 ((t.line : Int) + lx), .int .i64 t.col] 36)).cell (p := ⟨gz, oz + (nx + j) * 5, none⟩) hlz (by simp)).trans zc0
            have d1 := (((Upto.refl [] wr).alloc (.cells #[.int .i64 t.kind, .string ⟨t.text.toArray⟩, .int .i64 t.val, .int .i64 ((t.line : Int) + lx), .int .i64 t.col] 36)).cell (p := ⟨gz, oz + (nx + j) * 5 + 1, none⟩) hlz (by simp)).trans zc1
            have d2 := (((Upto.refl [] wr).alloc (.cells #[.int .i64 t.kind, .string ⟨t.text.toArray⟩, .int .i64 t.val, .int .i64 ((t.line : Int) + lx), .int .i64 t.col] 36)).cell (p := ⟨gz, oz + (nx + j) * 5 + 2, none⟩) hlz (by simp)).trans zc2
            have d3 := (((Upto.refl [] wr).alloc (.cells #[.int .i64 t.kind, .string ⟨t.text.toArray⟩, .int .i64 t.val, .int .i64 ((t.line : Int) + lx), .int .i64 t.col] 36)).cell (p := ⟨gz, oz + (nx + j) * 5 + 3, none⟩) hlz (by simp)).trans zc3
            have d4 := (((Upto.refl [] wr).alloc (.cells #[.int .i64 t.kind, .string ⟨t.text.toArray⟩, .int .i64 t.val, .int .i64 ((t.line : Int) + lx), .int .i64 t.col] 36)).cell (p := ⟨gz, oz + (nx + j) * 5 + 4, none⟩) hlz (by simp)).trans zc4
            have HUA := Lib.hid hua
            clear yc0 yc1 yc2 yc3 yc4 zc0 zc1 zc2 zc3 zc4 hup hua
            generalize wr.alloc (.cells #[.int .i64 t.kind, .string ⟨t.text.toArray⟩, .int .i64 t.val, .int .i64 ((t.line : Int) + lx), .int .i64 t.col] 36) = wn at *
            generalize wr.heap.size = Bn at *
            have z0 : ∀ u9 : Ext wn, u9.w.cell? ⟨gz, oz + (nx + j) * 5, none⟩ = some (.int .i64 t.kind) := fun u9 => u9.cell d0
            have z1 : ∀ u9 : Ext wn, u9.w.cell? ⟨gz, oz + (nx + j) * 5 + 1, none⟩ = some (.string ⟨t.text.toArray⟩) := fun u9 => u9.cell d1
            have z2 : ∀ u9 : Ext wn, u9.w.cell? ⟨gz, oz + (nx + j) * 5 + 2, none⟩ = some (.int .i64 t.val) := fun u9 => u9.cell d2
            have z3 : ∀ u9 : Ext wn, u9.w.cell? ⟨gz, oz + (nx + j) * 5 + 3, none⟩ = some (.int .i64 ((t.line : Int) + lx)) := fun u9 => u9.cell d3
            have z4 : ∀ u9 : Ext wn, u9.w.cell? ⟨gz, oz + (nx + j) * 5 + 4, none⟩ = some (.int .i64 t.col) := fun u9 => u9.cell d4
            have x0 : ∀ u9 : Ext wn, u9.w.cell? ⟨Bn, 0, none⟩ = some (.int .i64 t.kind) := fun u9 => u9.cell n0
            have x1 : ∀ u9 : Ext wn, u9.w.cell? ⟨Bn, 1, none⟩ = some (.string ⟨t.text.toArray⟩) := fun u9 => u9.cell n1
            have x2 : ∀ u9 : Ext wn, u9.w.cell? ⟨Bn, 2, none⟩ = some (.int .i64 t.val) := fun u9 => u9.cell n2
            have x3 : ∀ u9 : Ext wn, u9.w.cell? ⟨Bn, 3, none⟩ = some (.int .i64 ((t.line : Int) + lx)) := fun u9 => u9.cell n3
            have x4 : ∀ u9 : Ext wn, u9.w.cell? ⟨Bn, 4, none⟩ = some (.int .i64 t.col) := fun u9 => u9.cell n4
            clear n0 n1 n2 n3 n4 d0 d1 d2 d3 d4
            refine wp_region_seg_all [] [] [0, 1, 2, 3, 4, 5] (by kernel_rfl) (by kernel_rfl) ?_
            refine seg_plain rfl rfl rfl rfl rfl ?_
            intro K' hK'
            go_big_quiet_op
            go_big_quiet_on
            refine seg_plain rfl rfl rfl rfl rfl ?_
            intro K' hK'
            go_big_quiet_op
            go_big_quiet_on
            refine seg_plain rfl rfl rfl rfl rfl ?_
            intro K' hK'
            go_big_quiet_op
            go_big_quiet_on
            refine seg_plain rfl rfl rfl rfl rfl ?_
            intro K' hK'
            go_big_quiet_op
            go_big_quiet_on
            refine seg_plain rfl rfl rfl rfl rfl ?_
            intro K' hK'
            go_big_quiet_op
            go_big_quiet_on
            refine seg_plain rfl rfl rfl rfl rfl ?_
            intro K' hK'
            go_big_quiet_op
            go_big_quiet_on
            intro w9 hg
            have hv := HUA.out.trans_ext hg.up
            clear hg x0 x1 x2 x3 x4 z0 z1 z2 z3 z4
            go_wp2_with fail
            go_roundw
            case rel => exact ⟨nx + j + 1, by omega, by go_num, hv⟩
            case measure => simp [intOf]; omega
        · have hge' : ¬ (k : Int) < lenz := by omega
          have hu7 := hu6.trans_ext hup
          go_wp2_with fail
          refine (HK.out _ (h0.out.ext hu7)).mono ?_
          rintro e w8 ⟨rfl, hu8⟩
          go_wp2_with fail
          go_ret
          exact ⟨rfl, hu7.trans_ext hu8⟩
end Go.Proofs.YtkhbpebpljdifaaDoor
