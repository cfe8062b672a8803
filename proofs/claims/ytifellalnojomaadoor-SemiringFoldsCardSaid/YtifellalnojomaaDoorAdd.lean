/- bignat's Add. -/
import Derived.Test.YtifellalnojomaaDoorSum
namespace Go.Proofs.YtifellalnojomaaDoor
open Go.RowKit Go.PL Go.Maps

/-- v is the number n in the memory w -/
def NumS (w : World) (va : Option Addr) (vc n : Nat) : Prop := SlC w (.slice va (W32 n).length vc) ((W32 n).map uv)
theorem NumS.ext {w w' : World} {va : Option Addr} {vc n : Nat} (h : NumS w va vc n) (hu : Upto [] w w') : NumS w' va vc n := SlC.ext h hu

theorem num_of_row {w : World} {g c : Nat} {L : List Nat} (h : w.ownsRow 0 49 1 (.slice (some ⟨g, 0, none⟩) L.length c) L.length (L.map uv)) (hL : ∀ x ∈ L, x < 4294967296) : NumS w (some ⟨g, 0, none⟩) c (valL L) := by
  have ht := trim_W32 L hL
  have hk := trim_len L hL
  generalize trimN (L.map fun x : Nat => (x : Int)) = k at *
  rcases SlC.of_row h with ⟨h0, _⟩ | ⟨g', o', c', hs, hc⟩
  · have : L = [] := by simpa using h0
    subst this
    refine Or.inl ⟨?_, some ⟨g, 0, none⟩, c, ?_⟩
    · simp [valL, W32_zero]
    · simp [valL, W32_zero]
  · rw [Value.slice.injEq] at hs
    obtain ⟨h1, -, rfl⟩ := hs
    cases h1
    refine Or.inr ⟨g, 0, c, by simp, fun j u hj => hc j u ?_⟩
    rw [← ht] at hj
    rw [List.getElem?_map, List.getElem?_take] at hj
    rw [List.getElem?_map]
    split at hj
    · exact hj
    · cases hj

theorem row_facts {w : World} {g c B : Nat} {L : List Nat} (h : w.ownsRow 0 49 1 (.slice (some ⟨g, 0, none⟩) L.length c) L.length (L.map uv)) (hb : w.heap[B]? = some (.cells #[.slice none 0 0] 45 (0, 0))) :
    L.length ≤ c ∧ c ≤ 9223372036854775807 ∧ (∀ (j u : Nat), L[j]? = some u → w.cell? ⟨g, 0 + j, none⟩ = some (.int .u32 (u : Int))) ∧ g ≠ B := by
  rcases h.2 with ⟨h0, _⟩ | ⟨g', cap, cur, hs, _, hh, hn, hm, _, ht⟩
  · cases h0
  · rw [Value.slice.injEq] at hs
    obtain ⟨h1, -, rfl⟩ := hs
    cases h1
    refine ⟨hn, by simpa [maxLen] using hm, fun j u hj => ?_, ?_⟩
    · rw [cell_of hh, Nat.zero_add]
      have h2 : (L.map uv)[j]? = some (uv u) := by rw [List.getElem?_map, hj]; rfl
      rw [← ht, List.getElem?_take] at h2
      split at h2
      · simpa [uv] using h2
      · cases h2
    · rintro rfl
      rw [hh] at hb
      cases hb

set_option maxRecDepth 100000 in
set_option maxHeartbeats 1000000 in
theorem add_calls (x y : Nat) (va vb : Option Addr) (ca cb : Nat) (w : World) (ha : NumS w va ca x) (hb : NumS w vb cb y) (hla : (W32 x).length ≤ 100000000000) (hlb : (W32 y).length ≤ 100000000000) :
    Calls Tryd.prog 46 #[.agg #[.slice va (W32 x).length ca], .agg #[.slice vb (W32 y).length cb]] w fun e w' => ∃ g vc, e = .returned (.agg #[.slice (some ⟨g, 0, none⟩) (W32 (x + y)).length vc]) ∧ NumS w' (some ⟨g, 0, none⟩) vc (x + y) ∧ Upto [] w w' := by
  have hup : Upto [] w (((w.alloc (.cells #[.slice va (W32 x).length ca] 45)).alloc (.cells #[.slice vb (W32 y).length cb] 45)).alloc (.cells #[.slice none 0 0] 45)) := (((Upto.refl [] w).alloc _).alloc _).alloc _
  have b0 := alloc_old (alloc_old (new_at w (.cells #[.slice va (W32 x).length ca] 45)) (.cells #[.slice vb (W32 y).length cb] 45)) (.cells #[.slice none 0 0] 45)
  have b1 := alloc_old (new_at1 w (.cells #[.slice va (W32 x).length ca] 45) (.cells #[.slice vb (W32 y).length cb] 45)) (.cells #[.slice none 0 0] 45)
  have b2 := new_at2 w (.cells #[.slice va (W32 x).length ca] 45) (.cells #[.slice vb (W32 y).length cb] 45) (.cells #[.slice none 0 0] 45)
  have hj := join_calls (W32 x) (W32 y) va vb ca cb w.heap.size (w.heap.size + 1) (max (W32 x).length (W32 y).length) _ (ha.ext hup) (hb.ext hup) (cell_of b0 0) (cell_of b1 0) (by omega) (by omega) (W32_lt x) (W32_lt y) (by omega)
  have hv := sumL_val (a := W32 x) (b := W32 y) (Nat.le_max_left _ _) (Nat.le_max_right _ _)
  rw [val_W32, val_W32] at hv
  have hlt := sumL_lt (W32_lt x) (W32_lt y) (max (W32 x).length (W32 y).length)
  generalize sumL (W32 x) (W32 y) (max (W32 x).length (W32 y).length) = L at *
  have hmx : (max ((W32 x).length : Int) ((W32 y).length : Int)) = ((max (W32 x).length (W32 y).length : Nat) : Int) := by omega
  have HJ := Lib.hid hj
  clear hj ha hb
  generalize (W32 x).length = la at *
  generalize (W32 y).length = lb at *
  go_enter Tryd.func46, Tryd.ntmps46
  go_wp2_with fail
  all_goals
    first | rw [show max la lb = lb by omega] at HJ | rw [show max la lb = la by omega] at HJ
    refine HJ.out.mono ?_
    rintro e w3 ⟨g, c, rfl, hrow, hu3⟩
    have c2 := hu3.at b2 (by simp)
    have hup3 := hup.trans_ext hu3
    obtain ⟨hcap, hmaxc, hcell, hne⟩ := row_facts hrow c2
    have htr := trim_calls g 0 c (L.map fun x : Nat => (x : Int)) w3 (fun j z hz => by
      rw [List.getElem?_map] at hz
      cases hLj : L[j]? with
      | none => rw [hLj] at hz; cases hz
      | some u =>
        rw [hLj] at hz
        simp at hz
        subst hz
        exact hcell j u hLj) (by simpa using hcap) hmaxc
    rw [List.length_map, trim_len L hlt, hv] at htr
    have HT := Lib.hid htr
    have hnum := num_of_row hrow hlt
    rw [hv] at hnum
    clear htr b0 b1 b2 HJ hu3 hrow hcell
    go_wp2_with fail
    refine HT.out.mono ?_
    rintro e w4 ⟨rfl, hu4⟩
    have c3 := hu4.at c2 (by simp)
    have f3 := free_of c3 0
    have q3 := cell_of c3 0
    simp at q3
    have hup4 := hup3.trans_ext hu4
    have hnum4 := hnum.ext hu4
    clear HT hu4 c3 hnum c2
    go_wp2
    refine bodyPost_ret (v := .agg #[.slice (some ⟨g, 0, none⟩) (W32 (x + y)).length c]) (by simp [results, Tryd.results46, go_sem, q3]) rfl ⟨g, c, rfl, ?_, hup4.setCell (Or.inr (by simp; omega)) _⟩
    refine SlC.upto hnum4 ((Upto.refl [w.heap.size + 1 + 1] w4).setCell (Or.inl (by simp)) _) ?_
    intro g' o' n' c' hs _
    rw [Value.slice.injEq] at hs
    obtain ⟨hs, -, -⟩ := hs
    cases hs
    simpa using hne
end Go.Proofs.YtifellalnojomaaDoor
