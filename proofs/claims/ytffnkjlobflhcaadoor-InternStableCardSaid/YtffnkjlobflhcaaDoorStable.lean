/- InternStable: the walk. -/
import Derived.Test.YtffnkjlobflhcaaDoorKnown
import Derived.Test.YtffnkjlobflhcaaDoorSeen
import Derived.Test.YtffnkjlobflhcaaDoorFew
import Derived.Deep.LoopGhost
namespace Go.Proofs.YtffnkjlobflhcaaDoor
open Go.RowKit Go.PL Go.Maps

theorem internF_cases (room : Nat) (us : List ByteArray) (k : ByteArray) :
    (∃ us' n', internF room us k = (us', n', 0) ∧ us'[n']? = some k ∧ ∀ (m : Nat) (x : ByteArray), us[m]? = some x → us'[m]? = some x) ∨ internF room us k = (us, 0, 8) := by
  unfold internF
  cases hi : idx us k with
  | some i => exact Or.inl ⟨us, i, rfl, idx_some hi, fun _ _ h => h⟩
  | none =>
    by_cases hr : room ≤ us.length
    · right; simp [hr]
    · left
      refine ⟨us ++ [k], us.length, by simp [hr], by simp, fun m x hx => ?_⟩
      rw [List.getElem?_append_left (List.getElem?_eq_some_iff.1 hx).1]
      exact hx

theorem PoolX.le {w : World} {p room : Nat} {ks : List ByteArray} {S : List Nat} (h : PoolX w p room ks S) : ks.length ≤ room := by
  obtain ⟨mb, sv, h⟩ := h
  exact h.le
theorem findF_get {ks : List ByteArray} (hn : ks.Nodup) {n : Nat} {k : ByteArray} (h : ks[n]? = some k) : findF ks k = (n, true) := by
  obtain ⟨h1, rfl⟩ := List.getElem?_eq_some_iff.1 h
  exact findF_at hn h1

structure StAt (w : World) (keys : List ByteArray) (p room i : Nat) (ia : Option Addr) (ic : Nat) (us : List ByteArray) (ids : List Int) (S : List Nat) (wr : World) : Prop where
  pool : PoolX wr p room us S
  row : wr.ownsRow 0 3 1 (.slice ia i ic) i (ids.map iv)
  len : ids.length = i
  look : ∀ (j : Nat) (z : Int) (k : ByteArray), ids[j]? = some z → keys[j]? = some k → 0 ≤ z → us[z.toNat]? = some (fewF k)
  apart : ∀ g, (Value.slice ia i ic).ownBlock = some g → g ∉ S ∧ w.heap.size ≤ g
  new : Within w [] S
  up : Upto [] w wr
def StR (w : World) (keys : List ByteArray) (p room : Nat) (idv iv' : Value) (wr : World) : Prop :=
  ∃ (i : Nat) (ia : Option Addr) (ic : Nat) (us : List ByteArray) (ids : List Int) (S : List Nat), i ≤ keys.length ∧ i ≤ 30 ∧ iv' = .int .i64 i ∧ idv = .slice ia i ic ∧ StAt w keys p room i ia ic us ids S wr

theorem stAt_next {w wr w3 w5 : World} {keys : List ByteArray} {p room i : Nat} {ia qa : Option Addr} {ic qc : Nat} {us us' : List ByteArray} {ids : List Int} {S S' : List Nat} {k : ByteArray} {z : Int}
    (h : StAt w keys p room i ia ic us ids S wr) (hk : keys[i]? = some k) (hp3 : PoolX w3 p room us' S') (hs3 : Within wr S S') (hu3 : Upto S wr w3) (hm : ∀ (m : Nat) (x : ByteArray), us[m]? = some x → us'[m]? = some x) (hz : 0 ≤ z → us'[z.toNat]? = some (fewF k))
    (ho5 : w5.ownsRow 0 3 1 (.slice qa (i + 1) qc) (i + 1) (ids.map iv ++ [.int .i64 z])) (hg5 : Upto (Value.slice ia i ic).ownBlock.toList (w3.alloc (.cells #[.int .i64 z] 3)) w5)
    (hw5 : ∀ g, (Value.slice qa (i + 1) qc).ownBlock = some g → (Value.slice ia i ic).ownBlock = some g ∨ (w3.alloc (.cells #[.int .i64 z] 3)).heap.size ≤ g) :
    StAt w keys p room (i + 1) qa qc us' (ids ++ [z]) S' w5 := by
  have z0 := h.up.size
  have z1 := hu3.size
  have hlen := h.len
  have hap' : ∀ g, (Value.slice ia i ic).ownBlock = some g → g ∉ S' := fun g hg hm => by
    obtain ⟨cur, hh⟩ := ownsRow_block h.row hg
    have := lt_of_heap hh
    rcases hs3 g hm with h1 | h1
    · exact (h.apart g hg).1 h1
    · omega
  have hS' := hp3.lt
  refine ⟨(hp3.upto ((Upto.refl [] w3).alloc _) (by simp)).upto hg5 (fun g hg hm => hap' g (Option.mem_toList.1 hm) hg), by simpa [iv] using ho5, by simp [hlen], ?_, ?_, Within.next h.new hs3 z0, ?_⟩
  · intro j m q h1 h2 h3
    rcases Nat.lt_or_ge j i with hj | hj
    · rw [List.getElem?_append_left (by omega)] at h1
      exact hm _ _ (h.look j m q h1 h2 h3)
    · have hji : j = i := by
        have := (List.getElem?_eq_some_iff.1 h1).1
        simp at this
        omega
      subst hji
      rw [hk] at h2
      cases h2
      have : m = z := by
        rw [← hlen] at h1
        simpa using h1.symm
      rw [this] at h3 ⊢
      exact hz h3
  · intro g hg
    rcases hw5 g hg with h1 | h1
    · exact ⟨hap' g h1, (h.apart g h1).2⟩
    · simp at h1
      refine ⟨fun hm => ?_, by omega⟩
      have := hS' g hm
      omega
  · refine ((h.up.trans hu3 h.new).alloc _).trans hg5 (fun g hg => ?_)
    right
    exact (h.apart g (Option.mem_toList.1 hg)).2

set_option maxRecDepth 100000 in
set_option maxHeartbeats 3200000 in
theorem stable_walk (ka : Option Addr) (kc : Nat) (keys : List ByteArray) (most : Int) (w : World) (hk : SlC w (.slice ka keys.length kc) (keys.map .string)) (hs : ∀ k ∈ keys, k.size ≤ 9223372036854775807) (hl : keys.length ≤ 9223372036854775807) :
    Calls Tryd.prog 5 #[.slice ka keys.length kc, .int .i64 most] w fun e w' => e = .returned (.bool true) ∧ Upto [] w w' := by
  have H0 := Lib.hid (room_is most)
  have hroom := roomF_lt most
  generalize roomF most = room at *
  have H1 := Lib.hid (new_calls room (by omega))
  have H2 := Lib.hid known_calls
  obtain ⟨i0, hi0, hz0, hz1, hz2⟩ := info_parts infoI
  go_enter Tryd.func5, Tryd.ntmps5
  go_wp2_with (go_at_call 14; refine (H0.out _).mono ?_; rintro e w0 ⟨rfl, rfl⟩)
  refine (H1.out _).mono ?_
  rintro e w1 ⟨p, S0, rfl, hp0, hs0, hu1⟩
  go_wp2_with fail
  refine (H2.out _).mono ?_
  rintro e w2 ⟨rfl, hu2⟩
  have hp2 := hp0.upto hu2 (by simp)
  have hu := hu1.trans_ext hu2
  clear H1 H2 hp0 hu1 hu2
  go_wp2_with fail
  go_loopw [7, 8] (fun idv iv' wr => StR w keys p room idv iv' wr) (fun _ i _ => 30 - (intOf i).toNat)
  case atStart => exact ⟨0, none, 0, [], [], S0, by omega, by omega, rfl, rfl, hp2, by simpa using World.ownsRow_nil w2 0 3 1, rfl, by simp, by simp [Value.ownBlock], hs0, hu⟩
  case round =>
    obtain ⟨i, ia, ic, us, ids, S, hi, hi30, rfl, rfl, h⟩ := hrel
    by_cases hlt : i < keys.length ∧ i < 30
    · obtain ⟨hl1, hl2⟩ := hlt
      rcases hk with ⟨h0, _⟩ | ⟨g, o, c, hka, hc⟩
      · simp at h0; rw [h0] at hl1; simp at hl1
      simp only [Value.slice.injEq] at hka
      obtain ⟨rfl, -, rfl⟩ := hka
      have hkey : keys[i]? = some keys[i] := List.getElem?_eq_getElem hl1
      have hkc := hc i (.string keys[i]) (by simp [hl1])
      have hks := hs _ (List.getElem_mem hl1)
      have hgw : g < w.heap.size := World.block_lt_of_cell? w _ hkc
      have hk1 := (h.up.cell (p := ⟨g, o + i, none⟩) hgw (by simp)).trans hkc
      generalize keys[i] = k at *
      have HF := Lib.hid (fun w' => few_is k w' hks)
      have hfk := fewF_size k
      have hic := intern_calls h.pool (fewF k) (by unfold maxLen; omega)
      rcases internF_cases room us (fewF k) with ⟨us', n', hI, hn, hm⟩ | hI
      case' inl =>
        rw [hI] at hic
        have HI := Lib.hid hic
        clear hic hkc hI
        go_wp2_with (first
          | (go_at_call 17; refine (HF.out _).mono ?_; rintro e w' ⟨rfl, rfl⟩)
          | (go_at_call 18; refine HI.out.mono ?_; rintro e w3 ⟨rfl, S', hp3, hs3, hu3⟩; have hro3 := ownsRow_upto h.row hu3 (fun g hg => (h.apart g hg).1))
          | (at_builtin; refine wpList_app _ rfl (.tmp 52) (.tmp 54) 30 rfl 3 i0 (.int .i64 0) 1 8 Tryd.underlying30 hi0 hz0 hz1 hz2 rfl (by decide) (.slice ia i ic) i _ rfl (hro3.alloc _) ⟨w3.heap.size, 0, none⟩ 1 1 [.int .i64 n'] rfl rfl one_cell (by simp [Value.oneCell']) (by unfold maxLen; omega) (by omega) ?_; intro qa qc w5 ho5 hg5 hw5; have hst := stAt_next h hkey hp3 hs3 hu3 hm (by intro _; simpa using hn) ho5 hg5 hw5))
      case' inr =>
        rw [hI] at hic
        have HI := Lib.hid hic
        clear hic hkc hI
        go_wp2_with (first
          | (go_at_call 17; refine (HF.out _).mono ?_; rintro e w' ⟨rfl, rfl⟩)
          | (go_at_call 18; refine HI.out.mono ?_; rintro e w3 ⟨rfl, S', hp3, hs3, hu3⟩; have hro3 := ownsRow_upto h.row hu3 (fun g hg => (h.apart g hg).1))
          | (at_builtin; refine wpList_app _ rfl (.tmp 52) (.tmp 54) 30 rfl 3 i0 (.int .i64 0) 1 8 Tryd.underlying30 hi0 hz0 hz1 hz2 rfl (by decide) (.slice ia i ic) i _ rfl (hro3.alloc _) ⟨w3.heap.size, 0, none⟩ 1 1 [.int .i64 (-1)] rfl rfl one_cell (by simp [Value.oneCell']) (by unfold maxLen; omega) (by omega) ?_; intro qa qc w5 ho5 hg5 hw5; have hst := stAt_next h hkey hp3 hs3 hu3 (fun _ _ hx => hx) (by intro hx; omega) ho5 hg5 hw5))
      all_goals
        obtain ⟨us6, ids6, S6, hst⟩ : ∃ us' ids' S', StAt w keys p room (i + 1) qa qc us' ids' S' w5 := ⟨_, _, _, hst⟩
        clear hp3 hs3 hu3 hro3 ho5 hg5 hw5 HI HF h hk1 hkey
        have hnd := hst.pool.info.1
        have hst' := hst
        obtain ⟨hpool, hrow, hlen, hlook, -, -, hup⟩ := hst
        rcases SlC.of_row hrow with ⟨h0, _⟩ | ⟨ig, io, ic', hs', hic⟩
        · simp at h0; rw [h0] at hlen; simp at hlen
        simp only [Value.slice.injEq] at hs'
        obtain ⟨rfl, -, rfl⟩ := hs'
        go_loopw [11] (fun kv wr' => ∃ m : Nat, m ≤ i + 1 ∧ kv = .int .i64 m ∧ wr' = w5) (fun kv _ => i + 1 - (intOf kv).toNat)
        case atStart => exact ⟨0, by omega, rfl, rfl⟩
        case round =>
          obtain ⟨m, hmi, rfl, rfl⟩ := hrel
          by_cases hm : m < i + 1
          · have hmk : m < keys.length := by omega
            have hmk' : (m : Int) < keys.length := by omega
            have hkm : keys[m]? = some keys[m] := List.getElem?_eq_getElem hmk
            obtain ⟨zm, hzm⟩ : ∃ zm, ids6[m]? = some zm := ⟨_, List.getElem?_eq_getElem (by omega)⟩
            have c0 := (hup.cell (p := ⟨g, o + m, none⟩) hgw (by simp)).trans (hc m (.string keys[m]) (by simp [hmk]))
            have c1 := hic m (iv zm) (by simp [hzm])
            have hksm := hs _ (List.getElem_mem hmk)
            generalize keys[m] = km at *
            have HFm := Lib.hid (fun w' => few_is km w' hksm)
            have hfd := find_calls hpool (fewF km) (by have := fewF_size km; unfold maxLen; omega)
            have hmi' : (m : Int) < i + 1 := by omega
            have hmi2 : (m : Int) ≤ i := by omega
            unfold iv at c1
            by_cases hz : 0 ≤ zm
            · have hat := hlook m zm km hzm hkm hz
              rw [findF_get hnd hat] at hfd
              rw [Int.toNat_of_nonneg hz] at hfd
              have HD := Lib.hid hfd
              have hz' : decide (0 ≤ zm) = true := by simpa using hz
              clear hfd hzm hkm hat hic hc
              go_wp2_with (first
                | (go_at_call 17; refine (HFm.out _).mono ?_; rintro e w' ⟨rfl, rfl⟩)
                | (go_at_call 20; refine HD.out.mono ?_; rintro e w' ⟨rfl, rfl⟩))
              go_roundw
              case rel => exact ⟨m + 1, by omega, by go_num, by first | rfl | trivial⟩
              case measure => simp [intOf]; omega
            · have HD := Lib.hid hfd
              have hz' : decide (0 ≤ zm) = false := by simpa using hz
              clear hfd hzm hkm hic hc
              go_wp2_with (first
                | (go_at_call 17; refine (HFm.out _).mono ?_; rintro e w' ⟨rfl, rfl⟩)
                | (go_at_call 20; refine HD.out.mono ?_; rintro e w' ⟨rfl, rfl⟩))
              go_roundw
              case rel => exact ⟨m + 1, by omega, by go_num, by first | rfl | trivial⟩
              case measure => simp [intOf]; omega
          · obtain rfl : m = i + 1 := by omega
            go_wp2_with fail
            go_roundw
            case rel => exact ⟨i + 1, _, _, us6, ids6, S6, by omega, by omega, by go_num, rfl, hst'⟩
            case measure => simp [intOf]; omega
    · have hle := h.pool.le
      have hll := len_calls h.pool
      have hup := h.up
      have hd : decide ((us.length : Int) ≤ room) = true := by simpa using hle
      go_wp2_with (first
        | (go_at_call 22; refine hll.mono ?_; rintro e w' ⟨rfl, rfl⟩)
        | (go_at_call 14; refine (H0.out _).mono ?_; rintro e w' ⟨rfl, rfl⟩))
      all_goals
        go_ret
        exact ⟨by simp [hle], hup⟩
end Go.Proofs.YtffnkjlobflhcaaDoor
