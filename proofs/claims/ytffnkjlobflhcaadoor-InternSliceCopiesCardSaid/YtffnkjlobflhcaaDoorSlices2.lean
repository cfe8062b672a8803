/- The pool of slices: Intern whatever the slice, Get, Find. -/
import Derived.Test.YtffnkjlobflhcaaDoorKnown
namespace Go.Proofs.YtffnkjlobflhcaaDoor
open Go.RowKit Go.PL Go.Maps

def idxL (xs : List (List Int)) (x : List Int) : Option Nat := xs.findIdx? (fun y => decide (y = x))
/-- what Slices.Intern does: the slices, the id, the error -/
def sinternF (room : Nat) (xs : List (List Int)) (x : List Int) : List (List Int) × Nat × Nat :=
  match idxL xs x with
  | some i => (xs, i, 0)
  | none => if room ≤ xs.length then (xs, 0, 8) else (xs ++ [x], xs.length, 0)
def sfindF (xs : List (List Int)) (x : List Int) : Nat × Bool := match idxL xs x with | some i => (i, true) | none => (0, false)

theorem idx_map {f : List Int → ByteArray} {xs : List (List Int)} {x : List Int} (hf : ∀ y ∈ xs, f y = f x → y = x) : idx (xs.map f) (f x) = idxL xs x := by
  unfold idx idxL
  rw [List.findIdx?_map]
  induction xs with
  | nil => rfl
  | cons y ys ih =>
    have h0 : decide (f y = f x) = decide (y = x) := by
      by_cases h : y = x
      · simp [h]
      · simp [h]
        exact fun e => h (hf y (by simp) e)
    simp only [List.findIdx?_cons, Function.comp_apply, h0]
    rw [ih (fun z hz => hf z (by simp [hz]))]
theorem internF_map {f : List Int → ByteArray} {xs : List (List Int)} {x : List Int} (hf : ∀ y ∈ xs, f y = f x → y = x) (room : Nat) :
    internF room (xs.map f) (f x) = ((sinternF room xs x).1.map f, (sinternF room xs x).2) := by
  unfold internF sinternF
  rw [idx_map hf]
  cases idxL xs x with
  | some i => rfl
  | none =>
    simp only [List.length_map]
    split <;> simp
theorem findF_map {f : List Int → ByteArray} {xs : List (List Int)} {x : List Int} (hf : ∀ y ∈ xs, f y = f x → y = x) : findF (xs.map f) (f x) = sfindF xs x := by
  unfold findF sfindF
  rw [idx_map hf]
  cases idxL xs x <;> rfl
theorem refFind_map {f : List Int → ByteArray} {xs : List (List Int)} {x : List Int} (hf : ∀ y ∈ xs, f y = f x → y = x) : refFind (xs.map f) (f x) = match idxL xs x with | some i => (i : Int) | none => -1 := by
  unfold refFind
  rw [idx_map hf]
  cases idxL xs x <;> rfl
theorem key_apart (xs : List (List Int)) (x : List Int) : ∀ y ∈ xs, keyB y = keyB x → y = x := fun _ _ h => keyB_inj h

theorem intern_same {w : World} {p room : Nat} {ks : List ByteArray} {S : List Nat} (h : PoolX w p room ks S) (k : ByteArray) (hk : k.size ≤ maxLen) (hs : (internF room ks k).1 = ks) :
    Calls Tryd.prog 18 #[.pointer (some ⟨p, 0, none⟩), .string k] w fun e w' => e = .returned (.tuple #[.int .i64 (internF room ks k).2.1, .int .i64 (internF room ks k).2.2]) ∧ Upto [] w w' := by
  obtain ⟨mb, sv, h⟩ := h
  unfold internF at hs ⊢
  cases hi : idx ks k with
  | some i => exact (intern_hit h k hk i (idx_some hi)).mono fun e w' ⟨he, hw⟩ => by subst hw; exact ⟨he, Upto.refl _ _⟩
  | none =>
    by_cases hr : room ≤ ks.length
    · rw [if_pos hr]
      exact (intern_full h k hk (idx_none hi) (by have := h.le; omega)).mono fun e w' ⟨he, n, hw⟩ => by subst hw; exact ⟨he, (Upto.refl _ _).drewN _⟩
    · rw [hi] at hs
      simp [if_neg hr] at hs

theorem idxL_some {xs : List (List Int)} {x : List Int} {i : Nat} (h : idxL xs x = some i) : xs[i]? = some x := by
  unfold idxL at h
  rw [List.findIdx?_eq_some_iff_getElem] at h
  obtain ⟨hl, he, _⟩ := h
  simp at he
  rw [List.getElem?_eq_getElem hl, he]
theorem idxL_none {xs : List (List Int)} {x : List Int} (h : idxL xs x = none) : x ∉ xs := by
  unfold idxL at h
  rw [List.findIdx?_eq_none_iff] at h
  intro hm
  simpa using h x hm

section
variable {w : World} {l room : Nat} {xs : List (List Int)} {S E : List Nat} (x : List Int) (va : Option Addr) (vc : Nat)

set_option maxRecDepth 100000 in
set_option maxHeartbeats 1600000 in
/-- an old slice, or no room -/
theorem sintern_old (h : SlX w l room xs S E) (hv : SlC w (.slice va x.length vc) (x.map iv)) (hx : ∀ n ∈ x, I64 n) (hl : x.length ≤ 1048576) (i f : Nat) (hI : sinternF room xs x = (xs, i, f)) (hif : f = 0 ∧ i < xs.length ∨ f = 8) :
    Calls Tryd.prog 26 #[.pointer (some ⟨l, 0, none⟩), .slice va x.length vc] w fun e w' => e = .returned (.tuple #[.int .i64 i, .int .i64 f]) ∧ Upto [] w w' := by
  obtain ⟨p, lv, SP, ls, h⟩ := h
  have c0 := cell_of h.blk 0
  have c1 := cell_of h.blk 1
  simp at c0 c1
  have hlw := lt_of_heap h.blk
  have hkx := key_calls x hx va vc (w.drewN 1) (hv.ext ((Upto.refl [] w).drewN 1)) hl
  have HK : Hid (Calls Tryd.prog 37 #[.slice va x.length vc] w.drew fun e w' => e = .returned (.string ⟨(keyL x).toArray⟩) ∧ Upto [] w w') := hkx.mono fun e w' ⟨h1, h2⟩ => ⟨h1, ((Upto.refl [] w).drewN 1).trans_same h2⟩
  have HI : Hid (∀ w1, Upto [] w w1 → Calls Tryd.prog 18 #[.pointer (some ⟨p, 0, none⟩), .string ⟨(keyL x).toArray⟩] w1 fun e w' => e = .returned (.tuple #[.int .i64 i, .int .i64 f]) ∧ Upto [] w w') := fun w1 hu => by
    have he := internF_map (key_apart xs x) room
    rw [hI] at he
    have := intern_same (h.pool.upto hu (by simp)) (keyB x) (keyB_size x hx hl) (by rw [he])
    rw [he] at this
    exact this.mono fun e w' ⟨a, b⟩ => ⟨a, hu.trans_ext b⟩
  have hrow := h.row
  obtain ⟨la, lc, hlv, _⟩ := ownsRow_len hrow
  rw [hlv] at c1
  have hxl := h.pool.info.2.1
  simp at hxl
  clear hkx hI hlv hrow
  rcases hif with ⟨rfl, hi⟩ | rfl
  · have hd : ((i : Int) == xs.length) = false := by simp; omega
    go_enter Tryd.func26, Tryd.ntmps26
    go_wp2_with fail
    go_region_held3 (fun w' => w'.cell? ⟨l, 0, none⟩ = some (.pointer (some ⟨p, 0, none⟩)))
      (first | go_keep | (rw [hu1.cell hlw (by simp)]; assumption) | (rw [hu2.cell hlw (by simp)]; assumption))
      (first
        | (go_at_call 37; refine HK.out.mono ?_; rintro e w1 ⟨rfl, hu1⟩; have hs1 := hu1.size)
        | (go_at_call 18; refine (HI.out _ hu1).mono ?_; rintro e w2 ⟨rfl, hu2⟩))
    have e1 := (hu2.cell (p := ⟨l, 1, none⟩) hlw (by simp)).trans c1
    go_wp2
    go_ret2
    exact ⟨rfl, hu2⟩
  · go_enter Tryd.func26, Tryd.ntmps26
    go_wp2_with fail
    go_region_held3 (fun w' => w'.cell? ⟨l, 0, none⟩ = some (.pointer (some ⟨p, 0, none⟩)))
      (first | go_keep | (rw [hu1.cell hlw (by simp)]; assumption) | (rw [hu2.cell hlw (by simp)]; assumption))
      (first
        | (go_at_call 37; refine HK.out.mono ?_; rintro e w1 ⟨rfl, hu1⟩; have hs1 := hu1.size)
        | (go_at_call 18; refine (HI.out _ hu1).mono ?_; rintro e w2 ⟨rfl, hu2⟩))
    go_wp2
    go_ret2
    exact ⟨rfl, hu2⟩

theorem sintern_calls (h : SlX w l room xs S E) (hv : SlC w (.slice va x.length vc) (x.map iv)) (hx : ∀ n ∈ x, I64 n) (hl : x.length ≤ 1048576) (hxs : ∀ a, va = some a → x ≠ [] → a.block ∉ S) :
    Calls Tryd.prog 26 #[.pointer (some ⟨l, 0, none⟩), .slice va x.length vc] w fun e w' => e = .returned (.tuple #[.int .i64 (sinternF room xs x).2.1, .int .i64 (sinternF room xs x).2.2]) ∧
      ∃ S' E', SlX w' l room (sinternF room xs x).1 S' E' ∧ Within w S S' ∧ Within w E E' ∧ Upto S w w' := by
  have old : ∀ i f, sinternF room xs x = (xs, i, f) → (f = 0 ∧ i < xs.length ∨ f = 8) → _ := fun i f hI hif => sintern_old x va vc h hv hx hl i f hI hif
  cases hi : idxL xs x with
  | some i =>
    have hI : sinternF room xs x = (xs, i, 0) := by simp [sinternF, hi]
    rw [hI]
    exact (old i 0 hI (Or.inl ⟨rfl, (List.getElem?_eq_some_iff.1 (idxL_some hi)).1⟩)).mono fun e w' ⟨he, hu⟩ => ⟨he, S, E, h.upto hu (by simp) (by simp), Within.refl _ _, Within.refl _ _, hu.mono (by simp)⟩
  | none =>
    by_cases hr : room ≤ xs.length
    · have hI : sinternF room xs x = (xs, 0, 8) := by simp [sinternF, hi, hr]
      rw [hI]
      exact (old 0 8 hI (Or.inr rfl)).mono fun e w' ⟨he, hu⟩ => ⟨he, S, E, h.upto hu (by simp) (by simp), Within.refl _ _, Within.refl _ _, hu.mono (by simp)⟩
    · have hI : sinternF room xs x = (xs ++ [x], xs.length, 0) := by simp [sinternF, hi, hr]
      rw [hI]
      exact sintern_new x va vc h hv hx hl hxs (idxL_none hi) (by omega)

set_option maxRecDepth 100000 in
set_option maxHeartbeats 800000 in
theorem sget_in (h : SlX w l room xs S E) (i : Nat) (y : List Int) (hi : xs[i]? = some y) :
    Calls Tryd.prog 28 #[.pointer (some ⟨l, 0, none⟩), .int .i64 i] w fun e w' => ∃ ra rc, e = .returned (.tuple #[.slice ra y.length rc, .bool true]) ∧ Grew w w' 3 1 (.slice none 0 0) (.slice ra y.length rc) y.length (y.map iv) := by
  obtain ⟨p, lv, SP, ls, h⟩ := h
  have c1 := cell_of h.blk 1
  simp at c1
  have hlt : i < xs.length := (List.getElem?_eq_some_iff.1 hi).1
  have hll := h.len
  have hrow := h.row
  have hxl := h.pool.info.2.1
  simp at hxl
  obtain ⟨hyn, hyl⟩ := h.nums y (List.mem_of_getElem? hi)
  rcases SlC.of_row hrow with ⟨h0, _⟩ | ⟨g, o, c, hsv, hc⟩
  · rw [h0] at hll; simp at hll; omega
  rw [hsv, hll] at c1
  have hls : ls[i]? = some ls[i] := List.getElem?_eq_getElem (by omega)
  have hg := hc i ls[i] hls
  have hel := h.elems i y ls[i] hi hls
  obtain ⟨ya, yc, hyv, _⟩ := ownsRow_len hel
  rw [hyv] at hg hel
  have hcl := cloneI ya yc (y.map iv) w (by simpa using SlC.of_row hel) (by simp [iv, Value.oneCell']) (by simp; omega)
  simp only [List.length_map] at hcl
  have HC := Lib.hid hcl
  have d1 : decide ((xs.length : Int) ≤ i) = false := by simp; omega
  clear hcl hyv hls hc hsv hll hi hel
  go_enter Tryd.func28, Tryd.ntmps28
  go_wp2_with (go_at_call 38; refine HC.out.mono ?_; rintro e w1 ⟨ra, rc, rfl, hgr⟩)
  go_ret2
  exact ⟨ra, rc, rfl, hgr⟩

set_option maxHeartbeats 800000 in
theorem sget_out (h : SlX w l room xs S E) (i : Int) (hi : i < 0 ∨ (xs.length : Int) ≤ i) :
    Calls Tryd.prog 28 #[.pointer (some ⟨l, 0, none⟩), .int .i64 i] w fun e w' => e = .returned (.tuple #[.slice none 0 0, .bool false]) ∧ w = w' := by
  obtain ⟨p, lv, SP, ls, h⟩ := h
  have c1 := cell_of h.blk 1
  simp at c1
  obtain ⟨la, lc, hlv, _⟩ := ownsRow_len h.row
  rw [hlv] at c1
  clear hlv
  rcases hi with hi | hi
  · go_enter Tryd.func28, Tryd.ntmps28
    go_wp2
    go_ret2
    exact ⟨rfl, rfl⟩
  · have h0 : 0 ≤ i := by omega
    go_enter Tryd.func28, Tryd.ntmps28
    go_wp2
    go_ret2
    exact ⟨rfl, rfl⟩

set_option maxRecDepth 100000 in
set_option maxHeartbeats 800000 in
theorem sfind_calls (h : SlX w l room xs S E) (hv : SlC w (.slice va x.length vc) (x.map iv)) (hx : ∀ n ∈ x, I64 n) (hl : x.length ≤ 1048576) :
    Calls Tryd.prog 29 #[.pointer (some ⟨l, 0, none⟩), .slice va x.length vc] w fun e w' => e = .returned (.tuple #[.int .i64 (sfindF xs x).1, .bool (sfindF xs x).2]) ∧ Upto [] w w' := by
  obtain ⟨p, lv, SP, ls, h⟩ := h
  have c0 := cell_of h.blk 0
  simp at c0
  have hlw := lt_of_heap h.blk
  have hkx := key_calls x hx va vc (w.drewN 1) (hv.ext ((Upto.refl [] w).drewN 1)) hl
  have HK : Hid (Calls Tryd.prog 37 #[.slice va x.length vc] w.drew fun e w' => e = .returned (.string ⟨(keyL x).toArray⟩) ∧ Upto [] w w') := hkx.mono fun e w' ⟨h1, h2⟩ => ⟨h1, ((Upto.refl [] w).drewN 1).trans_same h2⟩
  have HI : Hid (∀ w1, Upto [] w w1 → Calls Tryd.prog 20 #[.pointer (some ⟨p, 0, none⟩), .string ⟨(keyL x).toArray⟩] w1 fun e w' => e = .returned (.tuple #[.int .i64 (sfindF xs x).1, .bool (sfindF xs x).2]) ∧ w1 = w') := fun w1 hu => by
    have := find_calls (h.pool.upto hu (by simp)) (keyB x) (keyB_size x hx hl)
    rw [findF_map (key_apart xs x)] at this
    exact this
  clear hkx
  generalize sfindF xs x = r at *
  go_enter Tryd.func29, Tryd.ntmps29
  go_wp2_with fail
  go_region_held3 (fun w' => w'.cell? ⟨l, 0, none⟩ = some (.pointer (some ⟨p, 0, none⟩)))
    (first | go_keep | (rw [hu1.cell hlw (by simp)]; assumption))
    (first
      | (go_at_call 37; refine HK.out.mono ?_; rintro e w1 ⟨rfl, hu1⟩)
      | (go_at_call 20; refine (HI.out _ hu1).mono ?_; rintro e w2 ⟨rfl, rfl⟩))
  go_wp2
  go_ret2
  exact ⟨rfl, hu1⟩
end
end Go.Proofs.YtffnkjlobflhcaaDoor
