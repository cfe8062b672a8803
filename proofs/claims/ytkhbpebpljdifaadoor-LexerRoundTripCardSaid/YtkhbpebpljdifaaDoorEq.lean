/- Equal: of tokens with the same kinds, texts and values. -/
import Derived.Test.YtkhbpebpljdifaaDoorLc
namespace Go.Proofs.YtkhbpebpljdifaaDoor
open Go.RowKit Go.PL Go.Maps

def tkA (t : Tok) : Value := .agg #[.int .i64 t.kind, .string ⟨t.text.toArray⟩, .int .i64 t.val, .int .i64 t.line, .int .i64 t.col]
set_option maxRecDepth 100000 in
set_option maxHeartbeats 6400000 in
theorem equal1_calls (t u : Tok) (h : t.key = u.key) (w : World) : Calls Tryd.prog 48 #[tkA t, tkA u] w fun e w' => e = .returned (.bool true) ∧ Upto [] w w' := by
  obtain ⟨tk, tt, tv, tl, tc⟩ := t
  obtain ⟨uk, ut, uv, ul, uc⟩ := u
  simp only [Tok.key, Prod.mk.injEq] at h
  obtain ⟨rfl, rfl, rfl⟩ := h
  have hu := ((Upto.refl [] w).alloc (.cells #[.int .i64 tk, .string ⟨tt.toArray⟩, .int .i64 tv, .int .i64 tl, .int .i64 tc] 36)).alloc (.cells #[.int .i64 tk, .string ⟨tt.toArray⟩, .int .i64 tv, .int .i64 ul, .int .i64 uc] 36)
  unfold tkA
  go_enter Tryd.func48, Tryd.ntmps48
  go_wp2_with fail
  go_ret
  exact ⟨rfl, hu⟩

set_option maxRecDepth 100000 in
set_option maxHeartbeats 6400000 in
theorem equalF_calls (xs ys : List Tok) (vx vy : Value) (w : World) (hx : Toks w vx xs) (hy : Toks w vy ys) (h : xs.map Tok.key = ys.map Tok.key) (hl : ys.length ≤ 1000000) : Calls Tryd.prog 47 #[vx, vy, .func (.func 48) #[] #[]] w fun e w' => e = .returned (.bool true) ∧ Upto [] w w' := by
  have hlen : xs.length = ys.length := by have := congrArg List.length h; simpa using this
  have HK := Lib.hid (show ∀ (k : Nat) t u, xs[k]? = some t → ys[k]? = some u → t.key = u.key by
    intro k t u h1 h2
    have h3 : (xs.map Tok.key)[k]? = some t.key := by rw [List.getElem?_map, h1]; rfl
    have h4 : (ys.map Tok.key)[k]? = some u.key := by rw [List.getElem?_map, h2]; rfl
    rw [h, h4] at h3
    exact (Option.some.inj h3).symm)
  obtain ⟨pa, ca, rfl⟩ := hx.len
  obtain ⟨pb, cb, rfl⟩ := hy.len
  have HA := Lib.hid hx.at
  have HB := Lib.hid hy.at
  clear hx hy h
  rw [hlen] at HA ⊢
  go_enter Tryd.func47, Tryd.ntmps47
  go_wp2_with fail
  go_loopw [17] (fun i wr => ∃ k : Nat, k ≤ ys.length ∧ i = .int .i64 k ∧ Upto [] w wr) (fun i _ => ys.length - (intOf i).toNat)
  case atStart => exact ⟨0, by omega, rfl, Upto.refl _ _⟩
  case round =>
    obtain ⟨k, hk, rfl, hup⟩ := hrel
    rcases Nat.lt_or_ge k ys.length with hlt | hge
    · obtain ⟨t, ht⟩ : ∃ t, xs[k]? = some t := ⟨xs[k], List.getElem?_eq_getElem (by omega)⟩
      obtain ⟨u, hu⟩ : ∃ u, ys[k]? = some u := ⟨ys[k], List.getElem?_eq_getElem hlt⟩
      rcases HA.out with ⟨h0, _⟩ | ⟨g, o, c, hs, hat⟩
      · rw [h0] at hlen; simp at hlen; omega
      · rcases HB.out with ⟨h0, _⟩ | ⟨g2, o2, c2', hs2, hbt⟩
        · rw [h0] at hlt; simp at hlt
        · simp only [Value.slice.injEq] at hs hs2
          obtain ⟨rfl, -, rfl⟩ := hs
          obtain ⟨rfl, -, rfl⟩ := hs2
          obtain ⟨c0, c1, c2, c3, c4⟩ := hat.ext hup _ _ ht
          obtain ⟨d0, d1, d2, d3, d4⟩ := hbt.ext hup _ _ hu
          simp only [bs] at c1 d1
          have HC := Lib.hid (equal1_calls t u (HK.out _ _ _ ht hu))
          have hua := (hup.alloc (.cells #[.int .i64 t.kind, .string ⟨t.text.toArray⟩, .int .i64 t.val, .int .i64 t.line, .int .i64 t.col] 36))
          have hlz := World.block_lt_of_cell? wr _ d0
          have hue := (Upto.refl [] wr).alloc (.cells #[.int .i64 t.kind, .string ⟨t.text.toArray⟩, .int .i64 t.val, .int .i64 t.line, .int .i64 t.col] 36)
          replace d0 := (hue.cell (p := ⟨g2, o2 + k * 5, none⟩) hlz (by simp)).trans d0
          replace d1 := (hue.cell (p := ⟨g2, o2 + k * 5 + 1, none⟩) hlz (by simp)).trans d1
          replace d2 := (hue.cell (p := ⟨g2, o2 + k * 5 + 2, none⟩) hlz (by simp)).trans d2
          replace d3 := (hue.cell (p := ⟨g2, o2 + k * 5 + 3, none⟩) hlz (by simp)).trans d3
          replace d4 := (hue.cell (p := ⟨g2, o2 + k * 5 + 4, none⟩) hlz (by simp)).trans d4
          clear ht hu hat hbt hue hlz
          have hlt2 : (k : Int) < ys.length := by omega
          have hk0 : (0 : Int) ≤ k := by omega
          go_wp2_with fail
          refine (HC.out _).mono ?_
          rintro e w2 ⟨rfl, hu2⟩
          have hub := (hua.alloc (.cells #[.int .i64 u.kind, .string ⟨u.text.toArray⟩, .int .i64 u.val, .int .i64 u.line, .int .i64 u.col] 36)).trans_ext hu2
          clear hua hu2 hup c0 c1 c2 c3 c4 d0 d1 d2 d3 d4
          go_wp2_with fail
          go_roundw
          case rel => exact ⟨k + 1, by omega, by go_num, hub⟩
          case measure => simp [intOf]; omega
    · have hge' : ¬ (k : Int) < ys.length := by omega
      go_wp2_with fail
      go_ret
      exact ⟨rfl, hup⟩

set_option maxRecDepth 100000 in
set_option maxHeartbeats 6400000 in
/-- Equal: of tokens that agree -/
theorem equal_calls (xs ys : List Tok) (vx vy : Value) (w : World) (hx : Toks w vx xs) (hy : Toks w vy ys) (h : xs.map Tok.key = ys.map Tok.key) (hl : ys.length ≤ 1000000) : Calls Tryd.prog 24 #[vx, vy] w fun e w' => e = .returned (.bool true) ∧ Upto [] w w' := by
  have HC := Lib.hid (equalF_calls xs ys vx vy w hx hy h hl)
  clear hx hy h hl
  go_enter Tryd.func24, Tryd.ntmps24
  go_wp2_with fail
  refine HC.out.mono ?_
  rintro e w2 ⟨rfl, hu2⟩
  go_wp2_with fail
  go_ret
  exact ⟨rfl, hu2⟩
end Go.Proofs.YtkhbpebpljdifaaDoor
