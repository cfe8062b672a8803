/- The keywords: the list, the set, the reference's search. -/
import Derived.Test.YtkhbpebpljdifaaDoorNum2
import Derived.Carry
namespace Go.Proofs.YtkhbpebpljdifaaDoor
open Go.RowKit Go.PL Go.Maps

/-- a string of these bytes, as a value -/
def sb (l : List UInt8) : Value := .string ⟨l.toArray⟩
def kwText : List UInt8 := [102, 105, 110, 100, 32, 115, 111, 109, 101, 32, 101, 118, 101, 114, 121, 32, 118, 101, 114, 116, 101, 120, 32, 101, 100, 103, 101, 32, 115, 101, 116, 32, 101, 100, 103, 101, 115, 32, 116, 114, 117, 101, 32, 102, 97, 108, 115, 101, 32, 110, 111, 116, 32, 97, 110, 100, 32, 111, 114, 32, 105, 109].append [112, 108, 105, 101, 115, 32, 105, 102, 102, 32, 105, 110, 32, 115, 117, 98, 32, 97, 100, 106, 32, 111, 110, 32, 105, 115, 32, 111, 110, 101, 32, 115, 105, 122, 101, 32, 109, 111, 100, 32, 108, 101, 97, 115, 116, 32, 103, 114, 101, 97, 116, 101, 115, 116, 32, 97, 115, 107, 32, 108, 101, 116]

set_option maxRecDepth 100000 in
theorem fields_words : Lib.fields kwText = lxWords := by kernel_rfl
set_option maxRecDepth 100000 in
theorem words_len : lxWords.length = 26 := by kernel_rfl
set_option maxRecDepth 100000 in
theorem words_low : ∀ (j : Nat) b, kwText[j]? = some b → b.toNat < 128 := by
  intro j b h
  have h2 : kwText.all (fun b => decide (b.toNat < 128)) = true := by kernel_rfl
  simpa using List.all_eq_true.1 h2 b (List.mem_of_getElem? h)

set_option maxRecDepth 100000 in
set_option maxHeartbeats 800000 in
/-- Keywords -/
theorem keywords_calls (w : World) (he : Env w) : Calls Tryd.prog 18 #[] w fun e w' => e = .returned (.slice (some ⟨w.heap.size, 0, none⟩) 26 26) ∧ w' = w.alloc (.cells (lxWords.map sb).toArray 9) := by
  have H := Tryd.strings_Fields_laid ⟨kwText.toArray⟩ w (show kwText.length < _ by have : kwText.length = 124 := by kernel_rfl
                                                                                   omega) (by rw [List.toList_toArray]; exact words_low) he.tab
  simp only [List.toList_toArray, fields_words, words_len] at H
  have HH := Lib.hid H
  clear H
  go_enter Tryd.func18, Tryd.ntmps18
  go_wp2_with fail
  refine HH.out.mono ?_
  rintro e w1 ⟨rfl, rfl⟩
  go_wp2
  go_ret
  exact ⟨rfl, rfl⟩

set_option maxRecDepth 100000 in
set_option maxHeartbeats 800000 in
/-- the reference's list -/
theorem wordsR_calls (w : World) : Calls Tryd.prog 19 #[] w fun e w' => e = .returned (.slice (some ⟨w.heap.size, 0, none⟩) 26 26) ∧ w' = w.alloc (.cells (lxWords.map sb).toArray 9) := by
  go_enter Tryd.func19, Tryd.ntmps19
  go_wp2
  go_ret
  exact ⟨rfl, rfl⟩

def kwE (x : List UInt8) : Value × Value := (sb x, .bool true)
/-- the set of the keywords -/
def Keys (w : World) (v : Value) : Prop := ∃ b, v = .map (some b) ∧ MapL Tryd.prog 9 w b (lxWords.map kwE)
theorem Keys.ext {w w' : World} {v : Value} (h : Keys w v) (hu : Upto [] w w') : Keys w' v := by
  obtain ⟨b, h1, h2⟩ := h
  exact ⟨b, h1, h2.upto hu (by simp)⟩
theorem lawS : Keyed Tryd.prog 9 := string_keyed Tryd.underlying9
theorem zeroB (w : World) : (zeroValue 4).run Tryd.prog w = .ok (.bool false) w := Tryd.zeroValue4 w
theorem sb_inj {a b : List UInt8} (h : sb a = sb b) : a = b := by
  unfold sb at h
  injection h with h
  injection h with h
  simpa using congrArg Array.toList h
set_option maxRecDepth 100000 in
theorem words_apart : lxWords.Nodup := by decide
theorem words_short {x : List UInt8} (h : x ∈ lxWords) : x.length ≤ 16 := by
  have h2 : lxWords.all (fun x => decide (x.length ≤ 16)) = true := by kernel_rfl
  simpa using List.all_eq_true.1 h2 x h
theorem sb_key {x : List UInt8} (h : x.length ≤ 9223372036854775807) : keyOf Tryd.prog 9 (sb x) = some (.string x) := by
  have := keyS (P := Tryd.prog) Tryd.underlying9 (s := ⟨x.toArray⟩) (by unfold maxLen; exact h)
  simpa [sb] using this
theorem kw_new {i : Nat} {x : List UInt8} (h : lxWords[i]? = some x) : ∀ p ∈ (lxWords.take i).map kwE, p.1 ≠ sb x := by
  intro p hp e
  obtain ⟨y, hy, rfl⟩ := List.mem_map.1 hp
  have hyx : y = x := sb_inj e
  subst hyx
  obtain ⟨j, hj⟩ := List.mem_iff_getElem?.1 hy
  rw [List.getElem?_take] at hj
  split at hj
  · rename_i hlt
    have := (List.getElem?_inj (by have := (List.getElem?_eq_some_iff.1 h).1; omega) words_apart).1 (hj.trans h.symm)
    omega
  · cases hj

set_option maxRecDepth 100000 in
set_option maxHeartbeats 800000 in
theorem known_calls (w : World) (he : Env w) : Calls Tryd.prog 32 #[] w fun e w' => ∃ v, e = .returned v ∧ Keys w' v ∧ Upto [] w w' := by
  have h0 := MapL.made Tryd.prog 9 w
  have hu0 : Upto [] w (w.alloc (.map #[] 0)) := (Upto.refl [] w).alloc _
  have HK := Lib.hid (keywords_calls _ (he.ext hu0))
  have hu1 := hu0.alloc (.cells (lxWords.map sb).toArray 9)
  have hm1 : MapL Tryd.prog 9 ((w.alloc (.map #[] 0)).alloc (.cells (lxWords.map sb).toArray 9)) w.heap.size [] := h0.upto ((Upto.refl [] _).alloc _) (by simp)
  have hb1 := new_at (w.alloc (.map #[] 0)) (.cells (lxWords.map sb).toArray 9)
  have hsz : (w.alloc (.map #[] 0)).heap.size = w.heap.size + 1 := by simp
  rw [hsz] at HK hb1
  generalize hW1 : (w.alloc (.map #[] 0)).alloc (.cells (lxWords.map sb).toArray 9) = W1 at *
  clear h0 hsz hu0 he
  have hmm := @run_makeMap Tryd.prog
  go_enter Tryd.func32, Tryd.ntmps32
  go_wp2_with fail
  refine HK.out.mono ?_
  rintro e w1 ⟨rfl, h1⟩
  have h2 := h1.symm
  subst h2
  clear HK
  go_wp2_with fail
  go_loopw [7] (fun j wr => ∃ i : Nat, i ≤ 26 ∧ j = .int .i64 i ∧ MapL Tryd.prog 9 wr w.heap.size ((lxWords.take i).map kwE) ∧ Upto [w.heap.size] W1 wr) (fun j _ => 26 - (intOf j).toNat)
  case atStart => exact ⟨0, by omega, rfl, hm1, Upto.refl _ _⟩
  case round =>
    obtain ⟨i, hi, rfl, hm, hup⟩ := hrel
    rcases Nat.lt_or_ge i 26 with hlt | hge
    · obtain ⟨x, hx⟩ : ∃ x, lxWords[i]? = some x := ⟨_, List.getElem?_eq_getElem (by rw [words_len]; exact hlt)⟩
      have hc : wr.cell? ⟨w.heap.size + 1, i, none⟩ = some (sb x) := by
        rw [hup.cell (p := ⟨w.heap.size + 1, i, none⟩) (lt_of_heap hb1) (by simp), cell_of hb1]
        simp [hx]
      have hlt' : (i : Int) < 26 := by omega
      have HN := Lib.hid (kw_new hx)
      have HKx := Lib.hid (sb_key (x := x) (by have := words_short (List.mem_of_getElem? hx); omega))
      have HT : Hid ((lxWords.take (i + 1)).map kwE = (lxWords.take i).map kwE ++ [(sb x, .bool true)]) := Lib.hid (by
        obtain ⟨h1, h2⟩ := List.getElem?_eq_some_iff.1 hx
        rw [List.take_succ_eq_append_getElem h1, h2, List.map_append]; rfl)
      clear hx hm1 hb1 hu1
      generalize sb x = vx at *
      generalize (lxWords.take i).map kwE = L at *
      go_wp2_with (refine wpList_insert _ rfl _ _ _ 72 rfl 9 4 lawS Tryd.underlying72 w.heap.size L rfl hm vx (.bool true) _ rfl rfl HKx.out HN.out ?_; intro w3 hm3 hg3)
      go_roundw
      case rel =>
        exact ⟨i + 1, by omega, by go_num, by rw [HT.out]; exact hm3, hup.grown hg3 (fun k hk => by cases hk; simp)⟩
      case measure => simp [intOf]; omega
    · have hge' : ¬ (i : Int) < 26 := by omega
      have hL : lxWords.take i = lxWords := List.take_of_length_le (by rw [words_len]; omega)
      rw [hL] at hm
      have hup2 := hu1.trans hup (S' := [w.heap.size]) (fun k hk => by simp at hk; subst hk; right; exact Nat.le_refl _)
      clear hm1 hb1 hu1 hup
      go_wp2
      go_ret
      exact ⟨_, rfl, ⟨_, rfl, hm⟩, hup2⟩

/-- a look-up in the set -/
theorem Keys.look {w : World} {v : Value} (h : Keys w v) (x : List UInt8) (hl : x.length ≤ 9223372036854775807) : (Instr.lookup 72 v (.string ⟨x.toArray⟩) false).run Tryd.prog w = .ok (.bool (lxWords.contains x)) w := by
  obtain ⟨b, rfl, hm⟩ := h
  rcases hm.look lawS Tryd.underlying72 (zeroB w) (sb_key hl) false with ⟨h1, h2⟩ | ⟨u, h1, h2⟩
  · have : lxWords.contains x = false := by
      cases hc : lxWords.contains x with
      | false => rfl
      | true => exact absurd rfl (h2 (kwE x) (List.mem_map.2 ⟨x, by simpa using hc, rfl⟩))
    rw [this]
    exact h1
  · obtain ⟨y, hy, hq⟩ := List.mem_map.1 h1
    have hq1 : sb y = sb x := congrArg Prod.fst hq
    have hq2 : Value.bool true = u := congrArg Prod.snd hq
    have hyx := sb_inj hq1
    subst hyx
    have : lxWords.contains y = true := by simpa using hy
    rw [this, hq2]
    exact h2

theorem str_eq (a b : List UInt8) : ((ByteArray.mk a.toArray).toList == (ByteArray.mk b.toArray).toList) = decide (a = b) := by
  rw [ByteArray.toList_mk, ByteArray.toList_mk, Bool.eq_iff_iff]
  simp

set_option maxRecDepth 100000 in
set_option maxHeartbeats 800000 in
/-- the reference's search -/
theorem isWord_calls (x : List UInt8) (w : World) : Calls Tryd.prog 64 #[.string ⟨x.toArray⟩] w fun e w' => e = .returned (.bool (lxWords.contains x)) ∧ Upto [] w w' := by
  have HW := Lib.hid (wordsR_calls w)
  have hu : Upto [] w (w.alloc (.cells (lxWords.map sb).toArray 9)) := (Upto.refl [] w).alloc _
  have hb := new_at w (.cells (lxWords.map sb).toArray 9)
  generalize w.alloc (.cells (lxWords.map sb).toArray 9) = W1 at *
  go_enter Tryd.func64, Tryd.ntmps64
  go_wp2_with fail
  refine HW.out.mono ?_
  rintro e w1 ⟨rfl, h1⟩
  have h2 := h1.symm
  subst h2
  clear HW
  go_wp2_with fail
  go_loopw [4] (fun j wr => ∃ i : Nat, i ≤ 26 ∧ j = .int .i64 i ∧ Hid (x ∉ lxWords.take i) ∧ wr = W1) (fun j _ => 26 - (intOf j).toNat)
  case atStart => exact ⟨0, by omega, rfl, Lib.hid (by simp), rfl⟩
  case round =>
    obtain ⟨i, hi, rfl, hx, hw0⟩ := hrel
    have hw1 := hw0.symm
    subst hw1
    rcases Nat.lt_or_ge i 26 with hlt | hge
    · obtain ⟨y, hy⟩ : ∃ y, lxWords[i]? = some y := ⟨_, List.getElem?_eq_getElem (by rw [words_len]; exact hlt)⟩
      have hc : W1.cell? ⟨w.heap.size, i, none⟩ = some (.string ⟨y.toArray⟩) := by
        rw [cell_of hb]
        simp [hy, sb]
      have hlt' : (i : Int) < 26 := by omega
      have HY := Lib.hid hy
      clear hy hb
      by_cases hyx : y = x
      · have HE2 : (y == x) = true := by simpa using hyx
        go_wp2_with fail
        go_ret
        refine ⟨ret_bool ?_, hu⟩
        subst hyx
        have := List.mem_of_getElem? HY.out
        simp [this]
      · have HE2 : (y == x) = false := by simpa using hyx
        go_wp2_with fail
        go_roundw
        case rel =>
          refine ⟨i + 1, by omega, by go_num, Lib.hid ?_, trivial⟩
          obtain ⟨h1, h2⟩ := List.getElem?_eq_some_iff.1 HY.out
          rw [List.take_succ_eq_append_getElem h1, h2]
          intro hm
          rcases List.mem_append.1 hm with hm | hm
          · exact hx.out hm
          · exact hyx (List.mem_singleton.1 hm).symm
        case measure => simp [intOf]; omega
    · have hge' : ¬ (i : Int) < 26 := by omega
      clear hb
      have hi26 := Lib.hid (show i = 26 by omega)
      go_wp2_with fail
      go_ret
      refine ⟨ret_bool ?_, hu⟩
      have := hx.out
      rw [hi26.out, List.take_of_length_le (by rw [words_len]; exact Nat.le_refl _)] at this
      simp [this]
end Go.Proofs.YtkhbpebpljdifaaDoor
