/- known: the example of the document. -/
import Derived.Test.YtffnkjlobflhcaaDoorSlices
namespace Go.Proofs.YtffnkjlobflhcaaDoor
open Go.RowKit Go.PL Go.Maps

def Apart (S T : List Nat) : Prop := ∀ k ∈ S, k ∉ T
theorem Apart.step {w : World} {S S' T : List Nat} (h : Apart S T) (hw : Within w S S') (ht : ∀ k ∈ T, k < w.heap.size) : Apart S' T := fun k hk hm => by
  rcases hw k hk with h1 | h1
  · exact h k h1 hm
  · have := ht k hm; omega
theorem Apart.symm {S T : List Nat} (h : Apart S T) : Apart T S := fun k hk hm => h k hm hk
theorem Apart.new {w : World} {S T : List Nat} (hs : ∀ k ∈ S, k < w.heap.size) (ht : Within w [] T) : Apart S T := fun k hk hm => by
  rcases ht k hm with h1 | h1
  · cases h1
  · have := hs k hk; omega

theorem Within.next {w w1 : World} {S S' T : List Nat} (h : Within w T S) (k : Within w1 S S') (hs : w.heap.size ≤ w1.heap.size) : Within w T S' := fun i hi => by
  rcases k i hi with h1 | h1
  · exact h i h1
  · right; omega

theorem SlX.lt {w : World} {l room : Nat} {xs : List (List Int)} {S E : List Nat} (h : SlX w l room xs S E) : (∀ k ∈ S, k < w.heap.size) ∧ ∀ k ∈ E, k < w.heap.size := by
  obtain ⟨p, lv, SP, ls, h⟩ := h
  constructor
  · intro k hk
    rw [h.foot] at hk
    simp only [List.cons_append, List.mem_cons, List.mem_append, Option.mem_toList] at hk
    rcases hk with rfl | hk | hk
    · exact lt_of_heap h.blk
    · obtain ⟨cur, hh⟩ := ownsRow_block h.row hk
      exact lt_of_heap hh
    · exact h.pool.lt k hk
  · intro g hg
    rw [h.efoot] at hg
    obtain ⟨v, hv, hm⟩ := List.mem_flatMap.1 hg
    obtain ⟨i, hi⟩ := List.mem_iff_getElem?.1 hv
    have hil : i < xs.length := by rw [← h.len]; exact (List.getElem?_eq_some_iff.1 hi).1
    obtain ⟨cur, hh⟩ := ownsRow_block (h.elems i xs[i] v (List.getElem?_eq_getElem hil) hi) (Option.mem_toList.1 hm)
    exact lt_of_heap hh

theorem kb1 : internF 2 [] ⟨#[98]⟩ = ([⟨#[98]⟩], 0, 0) := by rfl
theorem kb2 : internF 2 [⟨#[98]⟩] ⟨#[97]⟩ = ([⟨#[98]⟩, ⟨#[97]⟩], 1, 0) := by rfl
theorem kb3 : internF 2 [⟨#[98]⟩, ⟨#[97]⟩] ⟨#[98]⟩ = ([⟨#[98]⟩, ⟨#[97]⟩], 0, 0) := by rfl
theorem kb4 : internF 2 [⟨#[98]⟩, ⟨#[97]⟩] ⟨#[99]⟩ = ([⟨#[98]⟩, ⟨#[97]⟩], 0, 8) := by rfl

set_option maxRecDepth 100000 in
set_option maxHeartbeats 3200000 in
theorem known_calls (w : World) : Calls Tryd.prog 11 #[] w fun e w' => e = .returned (.bool true) ∧ Upto [] w w' := by
  have H1 := Lib.hid (new_calls 2 (by omega))
  have H2 := Lib.hid (newSlices_calls 5 (by omega))
  go_enter Tryd.func11, Tryd.ntmps11
  go_wp2_with fail
  refine (H1.out _).mono ?_
  rintro e w1 ⟨p, S, rfl, hp, hs, hu1⟩
  go_wp2_with fail
  refine (H2.out _).mono ?_
  rintro e w2 ⟨l, T, rfl, hl, ht, hu2⟩
  have hps := hp.lt
  have ha : Apart S T := Apart.new hp.lt ht
  have hp := hp.upto hu2 (by simp)
  go_wp2_with fail
  have hc := intern_calls hp ⟨#[98]⟩ (by decide)
  rw [kb1] at hc
  refine hc.mono ?_
  clear hc
  rintro e w3 ⟨rfl, S3, hp3, hs3, hu3⟩
  have hl3 := hl.upto hu3 ha.symm (by simp)
  have ha3 : Apart S3 T := ha.step hs3 hl.lt.1
  clear hp hl ha
  go_wp2_with fail
  have hc := intern_calls hp3 ⟨#[97]⟩ (by decide)
  simp only [kb2] at hc
  refine hc.mono ?_
  clear hc
  rintro e w4 ⟨rfl, S4, hp4, hs4, hu4⟩
  have hl4 := hl3.upto hu4 ha3.symm (by simp)
  have ha4 : Apart S4 T := ha3.step hs4 hl3.lt.1
  clear hp3 hl3 ha3
  go_wp2_with fail
  have hc := intern_calls hp4 ⟨#[98]⟩ (by decide)
  simp only [kb3] at hc
  refine hc.mono ?_
  clear hc
  rintro e w5 ⟨rfl, S5, hp5, hs5, hu5⟩
  have hl5 := hl4.upto hu5 ha4.symm (by simp)
  have ha5 : Apart S5 T := ha4.step hs5 hl4.lt.1
  clear hp4 hl4 ha4
  go_wp2_with fail
  have hc := intern_calls hp5 ⟨#[99]⟩ (by decide)
  simp only [kb4] at hc
  refine hc.mono ?_
  clear hc
  rintro e w6 ⟨rfl, S6, hp6, hs6, hu6⟩
  have hl6 := hl5.upto hu6 ha5.symm (by simp)
  have ha6 : Apart S6 T := ha5.step hs6 hl5.lt.1
  clear hp5 hl5 ha5
  go_wp2_with fail
  have hl7 := hl6.upto ((Upto.refl [] w6).alloc (.cells #[.int .i64 1, .int .i64 2] 3)) (by simp) (by simp)
  have hv : SlC (w6.alloc (.cells #[.int .i64 1, .int .i64 2] 3)) (.slice (some ⟨w6.heap.size, 0, none⟩) [(1 : Int), 2].length 2) ([(1 : Int), 2].map iv) := by
    refine Or.inr ⟨w6.heap.size, 0, 2, rfl, fun j u hj => ?_⟩
    rw [cell_of (new_at _ _), ← hj, Nat.zero_add]
    match j with
    | 0 => rfl
    | 1 => rfl
    | _ + 2 => rfl
  have hTlt := hl6.lt.1
  refine (sintern_new [1, 2] _ _ hl7 hv (by intro n hn; simp at hn; unfold I64; omega) (by decide) (by intro a ha _ hm; cases ha; have := hTlt _ hm; simp at this) (by simp) (by decide)).mono ?_
  rintro e w7 ⟨rfl, T7, E7, hl8, hst7, het7, hu7⟩
  have hp7 := hp6.upto ((Upto.refl [] w6).alloc (.cells #[.int .i64 1, .int .i64 2] 3)) (by simp)
  have hp8 := hp7.upto hu7 ha6
  have ha8 : Apart T7 S6 := ha6.symm.step hst7 hp7.lt
  clear hl6 hl7 hv hp6 hp7
  go_wp2_with fail
  refine (sintern_new (w := w7) [] none 0 hl8 (Or.inl ⟨rfl, none, 0, rfl⟩) (by simp) (by decide) (by simp) (by simp) (by decide)).mono ?_
  rintro e w8 ⟨rfl, T8, E8, hl9, hst8, het8, hu8⟩
  have hp9 := hp8.upto hu8 ha8.symm
  go_wp2_with fail
  refine (key_in hp9 1 ⟨#[97]⟩ rfl).mono ?_
  rintro e w9 ⟨rfl, rfl⟩
  go_wp2
  go_ret
  refine ⟨rfl, ?_⟩
  have z1 := hu1.size
  have z2 := hu2.size
  have z3 := hu3.size
  have z4 := hu4.size
  have z5 := hu5.size
  have z6 := hu6.size
  have u2 := hu1.trans_ext hu2
  have u3 := u2.trans hu3 hs
  have s3 := Within.next (w := w) (T := []) hs hs3 (by omega)
  have u4 := u3.trans hu4 s3
  have s4 := Within.next s3 hs4 (by omega)
  have u5 := u4.trans hu5 s4
  have s5 := Within.next s4 hs5 (by omega)
  have u6 := (u5.trans hu6 s5).alloc (.cells #[.int .i64 1, .int .i64 2] 3)
  have t1 : Within w [] T := fun k hk => by rcases ht k hk with h | h; cases h; right; omega
  have u7 := u6.trans hu7 t1
  have t7 := Within.next t1 hst7 (by simp; omega)
  exact u7.trans hu8 t7
end Go.Proofs.YtffnkjlobflhcaaDoor
