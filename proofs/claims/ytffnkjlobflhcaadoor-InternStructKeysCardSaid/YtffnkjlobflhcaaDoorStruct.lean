/- InternStructKeys: the walk of the law. -/
import Derived.Test.YtffnkjlobflhcaaDoorPair
import Derived.Deep.LoopGhost
namespace Go.Proofs.YtffnkjlobflhcaaDoor
open Go.RowKit Go.PL Go.Maps

theorem size27 (w : World) : (sizeOf 27).run Tryd.prog w = .ok 1 w := by kernel_rfl
theorem agg27 (w : World) : (isAgg 27).run Tryd.prog w = .ok false w := by kernel_rfl
theorem eqIn28 (d : Nat) (a b c e : Int) (w : World) : (Op.equalIn (d + 2) 28 (.agg #[.int .i8 a, .int .i8 b]) (.agg #[.int .i8 c, .int .i8 e])).run Tryd.prog w = .ok (a == c && b == e) w := by
  have h1 : ∀ x y : Int, (Op.equalIn (d + 1) 27 (.int .i8 x) (.int .i8 y)).run Tryd.prog w = .ok (x == y) w := fun x y => by
    simp [Op.equalIn, run_underlying Tryd.underlying27]
  rw [show d + 2 = (d + 1) + 1 from rfl, Op.equalIn]
  generalize hq : Op.equalIn (d + 1) = q at *
  simp [run_underlying Tryd.underlying28, size27, part, agg27, h1]
  have hr : List.range' 0 2 = [0, 1] := rfl
  simp only [hr]
  by_cases e1 : a = c <;> by_cases e2 : b = e <;> simp [e1, e2, h1, agg27]
theorem same_iff {us : List (Int × Int)} (hn : us.Nodup) {n m : Nat} {k q : Int × Int} (h1 : us[n]? = some k) (h2 : us[m]? = some q) : (((m : Int) == (n : Int)) == (q.1 == k.1 && q.2 == k.2)) = true := by
  by_cases e : m = n
  · subst e
    rw [h1] at h2
    cases h2
    simp
  · have hq : q ≠ k := fun he => by
      subst he
      exact e ((List.getElem?_inj (List.getElem?_eq_some_iff.1 h2).1 hn).1 (by rw [h1, h2]))
    have h3 : ((m : Int) == (n : Int)) = false := by simp; omega
    have h4 : (q.1 == k.1 && q.2 == k.2) = false := by
      cases hb : (q.1 == k.1 && q.2 == k.2) with
      | false => rfl
      | true =>
        simp at hb
        exact absurd (Prod.ext hb.1 hb.2) hq
    rw [h3, h4]
    rfl
theorem eqlP (a b c d : Int) (w : World) : (binOp .eql 28 (.agg #[.int .i8 a, .int .i8 b]) (.agg #[.int .i8 c, .int .i8 d])).run Tryd.prog w = .ok (.bool (a == c && b == d)) w := by
  have h : (Op.equalIn 10000 28 (.agg #[.int .i8 a, .int .i8 b]) (.agg #[.int .i8 c, .int .i8 d])).run Tryd.prog w = .ok (a == c && b == d) w := eqIn28 9998 a b c d w
  rw [run_eql_struct, h]
  rfl

section
variable {w : World} {p room : Nat} {us : List (Int × Int)} {S : List Nat}
theorem PairX.drewN' (h : PairX w p room us S) (n : Nat) : PairX (w.drewN n) p room us S := h.upto ((Upto.refl [] w).drewN n) (by simp)
theorem pintern_calls (h : PairX w p room us S) (k : Int × Int) (h1 : I8 k.1) (h2 : I8 k.2) (hf : us.length < room) :
    Calls Tryd.prog 12 #[.pointer (some ⟨p, 0, none⟩), kv k] w fun e w' => ∃ (n : Nat) (us' : List (Int × Int)) (S' : List Nat), e = .returned (.tuple #[.int .i64 (n : Nat), .int .i64 0]) ∧
      PairX w' p room us' S' ∧ us'[n]? = some k ∧ (∀ (m : Nat) (x : Int × Int), us[m]? = some x → us'[m]? = some x) ∧ us'.length ≤ us.length + 1 ∧ Within w S S' ∧ Upto S w w' := by
  by_cases hm : k ∈ us
  · obtain ⟨i, hi⟩ := List.mem_iff_getElem?.1 hm
    exact (pintern_hit h k h1 h2 i hi).mono fun e w' ⟨he, hu⟩ => ⟨i, us, S, he, h.upto hu (by simp), hi, fun _ _ hx => hx, by omega, Within.refl _ _, hu.mono (by simp)⟩
  · exact (pintern_new h k h1 h2 hm hf).mono fun e w' ⟨he, S', hp, hs, hu⟩ => ⟨us.length, us ++ [k], S', he, hp, by simp, fun m x hx => by
      rw [List.getElem?_append_left (List.getElem?_eq_some_iff.1 hx).1]; exact hx, by simp, hs, hu⟩
end

/-- the argument: the pairs' cells -/
structure PairsAt (w : World) (g o : Nat) (ks : List (Int × Int)) : Prop where
  c0 : ∀ i k, ks[i]? = some k → w.cell? ⟨g, o + i * 2, none⟩ = some (.int .i8 k.1)
  c1 : ∀ i k, ks[i]? = some k → w.cell? ⟨g, o + i * 2 + 1, none⟩ = some (.int .i8 k.2)
  wf : ∀ k ∈ ks, I8 k.1 ∧ I8 k.2

/-- after i rounds: the pool holds us, the ids ids -/
structure SkAt (w : World) (ks : List (Int × Int)) (p i : Nat) (ia : Option Addr) (ic : Nat) (us : List (Int × Int)) (ids : List Nat) (S : List Nat) (wr : World) : Prop where
  pool : PairX wr p 100 us S
  row : wr.ownsRow 0 3 1 (.slice ia i ic) i (ids.map fun (n : Nat) => iv n)
  len : ids.length = i
  look : ∀ (j n : Nat) (k : Int × Int), ids[j]? = some n → ks[j]? = some k → us[n]? = some k
  ul : us.length ≤ i
  apart : ∀ g, (Value.slice ia i ic).ownBlock = some g → g ∉ S ∧ w.heap.size ≤ g
  new : Within w [] S
  up : Upto [] w wr
def SkR (w : World) (ks : List (Int × Int)) (p : Nat) (iv' idv : Value) (wr : World) : Prop :=
  ∃ (i : Nat) (ia : Option Addr) (ic : Nat) (us : List (Int × Int)) (ids : List Nat) (S : List Nat), i ≤ ks.length ∧ i ≤ 40 ∧ iv' = .int .i64 i ∧ idv = .slice ia i ic ∧ SkAt w ks p i ia ic us ids S wr

theorem skAt_next {w wr w3 w4 w5 : World} {ks : List (Int × Int)} {p i n : Nat} {ia qa : Option Addr} {ic qc : Nat} {us us' : List (Int × Int)} {ids S S' : List Nat} {k : Int × Int}
    (hk : ks[i]? = some k) (hlen : ids.length = i) (hlook : ∀ (j n : Nat) (k : Int × Int), ids[j]? = some n → ks[j]? = some k → us'[n]? = some k) (hul : us.length ≤ i) (hl3 : us'.length ≤ us.length + 1) (hn3 : us'[n]? = some k)
    (hap : ∀ g, (Value.slice ia i ic).ownBlock = some g → g ∉ S ∧ w.heap.size ≤ g) (hnw : Within w [] S) (hs3 : Within wr S S') (hap' : ∀ g, (Value.slice ia i ic).ownBlock = some g → g ∉ S')
    (z0 : w.heap.size ≤ wr.heap.size) (z1 : wr.heap.size ≤ w3.heap.size) (z2 : w3.heap.size = w4.heap.size) (hwd : Upto [] w w4) (hp5 : PairX w5 p 100 us' S')
    (ho5 : w5.ownsRow 0 3 1 (.slice qa (i + 1) qc) (i + 1) (ids.map (fun (n : Nat) => iv n) ++ [.int .i64 n])) (hg5 : Upto (Value.slice ia i ic).ownBlock.toList (w4.alloc (.cells #[.int .i64 n] 3)) w5)
    (hw5 : ∀ g, (Value.slice qa (i + 1) qc).ownBlock = some g → (Value.slice ia i ic).ownBlock = some g ∨ (w4.alloc (.cells #[.int .i64 n] 3)).heap.size ≤ g) (hS' : ∀ k ∈ S', k < w4.heap.size) :
    SkAt w ks p (i + 1) qa qc us' (ids ++ [n]) S' w5 := by
  refine ⟨hp5, by simpa [iv] using ho5, by simp [hlen], ?_, by omega, ?_, Within.next hnw hs3 z0, ?_⟩
  · intro j m q h1 h2
    rcases Nat.lt_or_ge j i with hj | hj
    · rw [List.getElem?_append_left (by omega)] at h1
      exact hlook j m q h1 h2
    · have hji : j = i := by
        have := (List.getElem?_eq_some_iff.1 h1).1
        simp at this
        omega
      subst hji
      rw [hk] at h2
      cases h2
      have : m = n := by
        rw [← hlen] at h1
        simpa using h1.symm
      rw [this]
      exact hn3
  · intro g hg
    rcases hw5 g hg with h1 | h1
    · exact ⟨hap' g h1, (hap g h1).2⟩
    · simp at h1
      refine ⟨fun hm => ?_, by omega⟩
      have := hS' g hm
      omega
  · refine (hwd.alloc _).trans hg5 (fun g hg => ?_)
    right
    exact (hap g (Option.mem_toList.1 hg)).2

set_option maxRecDepth 100000 in
set_option maxHeartbeats 3200000 in
theorem struct_walk (va : Option Addr) (c : Nat) (ks : List (Int × Int)) (w : World) (hps : ks = [] ∨ ∃ g o, va = some ⟨g, o, none⟩ ∧ PairsAt w g o ks) (hl : ks.length ≤ 9223372036854775807) :
    Calls Tryd.prog 3 #[.slice va ks.length c] w fun e w' => e = .returned (.bool true) ∧ Upto [] w w' := by
  have H1 := Lib.hid (pnew_calls 100 (by omega) w)
  have H2 := Lib.hid known_calls
  go_enter Tryd.func3, Tryd.ntmps3
  go_wp2_with fail
  refine H1.out.mono ?_
  rintro e w1 ⟨p, S0, rfl, hp0, hs0, hu1⟩
  go_wp2_with fail
  refine (H2.out _).mono ?_
  rintro e w2 ⟨rfl, hu2⟩
  have hp2 := hp0.upto hu2 (by simp)
  have hu := hu1.trans_ext hu2
  clear H1 H2 hp0
  go_wp2_with fail
  go_loopw [5, 6] (fun idv iv' wr => SkR w ks p iv' idv wr) (fun _ i _ => 40 - (intOf i).toNat)
  case atStart => exact ⟨0, none, 0, [], [], S0, by omega, by omega, rfl, rfl, hp2, by simpa using World.ownsRow_nil w2 0 3 1, rfl, by simp, by simp, by simp [Value.ownBlock], hs0, hu⟩
  case round =>
    obtain ⟨i, ia, ic, us, ids, S, hi, hi40, rfl, rfl, h⟩ := hrel
    have hup := h.up
    by_cases hlt : i < ks.length ∧ i < 40
    · obtain ⟨hl1, hl2⟩ := hlt
      rcases hps with h0 | ⟨g, o, rfl, hp⟩
      · rw [h0] at hl1; simp at hl1
      have hk : ks[i]? = some ks[i] := List.getElem?_eq_getElem hl1
      have a0 := hp.c0 i _ hk
      have a1 := hp.c1 i _ hk
      have hwf := hp.wf _ (List.getElem_mem hl1)
      have hgw : g < w.heap.size := World.block_lt_of_cell? w _ a0
      have b0 := (hup.cell (p := ⟨g, o + i * 2, none⟩) hgw (by simp)).trans a0
      have b1 := (hup.cell (p := ⟨g, o + i * 2 + 1, none⟩) hgw (by simp)).trans a1
      have HC := Lib.hid (pintern_calls h.pool ks[i] hwf.1 hwf.2 (by have := h.ul; omega))
      have HK := Lib.hid hk
      generalize ks[i] = k at *
      obtain ⟨x, y⟩ := k
      unfold kv at HC
      clear a0 a1 hk hwf
      go_wp2_with (go_at_call 12; refine HC.out.mono ?_; rintro e w3 ⟨n, us', S', rfl, hp3, hn3, hm3, hl3, hs3, hu3⟩)
      have hro3 := ownsRow_upto h.row hu3 (fun g hg => (h.apart g hg).1)
      have hw3 := hup.trans hu3 h.new
      have b0' := (hw3.cell (p := ⟨g, o + i * 2, none⟩) hgw (by simp)).trans ((hup.cell (p := ⟨g, o + i * 2, none⟩) hgw (by simp)).symm.trans b0)
      have b1' := (hw3.cell (p := ⟨g, o + i * 2 + 1, none⟩) hgw (by simp)).trans ((hup.cell (p := ⟨g, o + i * 2 + 1, none⟩) hgw (by simp)).symm.trans b1)
      have hlook : ∀ j n k, ids[j]? = some n → ks[j]? = some k → us'[n]? = some k := fun j n k h1 h2 => hm3 _ _ (h.look j n k h1 h2)
      have hul := h.ul
      have hap := h.apart
      have hap' : ∀ g, (Value.slice ia i ic).ownBlock = some g → g ∉ S' := fun g hg hm => by
        obtain ⟨cur, hh⟩ := ownsRow_block h.row hg
        have := lt_of_heap hh
        rcases hs3 g hm with h1 | h1
        · exact (h.apart g hg).1 h1
        · omega
      have hnw := h.new
      have hlen := h.len
      have hnd : us'.Nodup := by obtain ⟨mb, va, vc, hq⟩ := hp3; exact hq.nodup
      have hup0 := hup.size
      clear b0 b1 h hup
      go_loopw [9] (fun kv wr' => ∃ m j : Nat, m ≤ i ∧ kv = .int .i64 m ∧ wr' = w3.drewN j) (fun kv _ => i - (intOf kv).toNat)
      case atStart => exact ⟨0, 0, by omega, rfl, rfl⟩
      case round =>
        obtain ⟨m, j, hmi, rfl, rfl⟩ := hrel
        by_cases hm : m < i
        · have hmk : m < ks.length := by omega
          have hkm : ks[m]? = some ks[m] := List.getElem?_eq_getElem hmk
          obtain ⟨nm, hnm⟩ : ∃ nm, ids[m]? = some nm := ⟨_, List.getElem?_eq_getElem (by omega)⟩
          have hsm := same_iff hnd hn3 (hlook m nm _ hnm hkm)
          have p0 : (w3.drewN j).cell? ⟨g, o + m * 2, none⟩ = some (.int .i8 ks[m].1) := (hw3.cell (p := ⟨g, o + m * 2, none⟩) hgw (by simp)).trans (hp.c0 m _ hkm)
          have p1 : (w3.drewN j).cell? ⟨g, o + m * 2 + 1, none⟩ = some (.int .i8 ks[m].2) := (hw3.cell (p := ⟨g, o + m * 2 + 1, none⟩) hgw (by simp)).trans (hp.c1 m _ hkm)
          generalize ks[m] = q at *
          obtain ⟨qx, qy⟩ := q
          simp only at p0 p1 hsm
          rcases SlC.of_row hro3 with ⟨h0, _⟩ | ⟨ig, io, ic', hs, hc⟩
          · simp at h0; rw [h0] at hlen; simp at hlen; omega
          · simp only [Value.slice.injEq] at hs
            obtain ⟨rfl, -, rfl⟩ := hs
            have p2 : w3.cell? ⟨ig, io + m, none⟩ = some (.int .i64 nm) := hc m (iv nm) (by simp [hnm])
            have he := eqlP qx qy x y
            have p0' : w3.cell? ⟨g, o + m * 2, none⟩ = some (.int .i8 qx) := p0
            have p1' : w3.cell? ⟨g, o + m * 2 + 1, none⟩ = some (.int .i8 qy) := p1
            have HN := Lib.hid hnm
            have HKM := Lib.hid hkm
            clear hnm hkm hc p0 p1
            have hmi' : (m : Int) < i := by omega
            have hmk' : (m : Int) < ks.length := by omega
            go_wp2
            go_quiet (fail)
            go_wp2
            go_roundw
            case rel => exact ⟨m + 1, _, by omega, by go_num, rfl⟩
            case measure => simp [intOf]; omega
        · obtain rfl : m = i := by omega
          have hrd : (w3.drewN j).ownsRow 0 3 1 (.slice ia m ic) m (ids.map fun (n : Nat) => iv n) := hro3
          have hpd := hp3.drewN' j
          have hwd := hw3.drewN j
          have hnl : n < us'.length := (List.getElem?_eq_some_iff.1 hn3).1
          have hnl' : decide (us'.length ≤ n) = false := by simp; omega
          obtain ⟨i0, hi0, hz0, hz1, hz2⟩ := info_parts infoI
          have hSlt := hpd.lt
          have hs31 := hu3.size
          have hs34 : w3.heap.size = (w3.drewN j).heap.size := rfl
          clear b0' b1'
          generalize w3.drewN j = w4 at *
          go_wp2_with (first
            | (at_builtin; refine wpList_app _ rfl (.tmp 66) (.tmp 68) 30 rfl 3 i0 (.int .i64 0) 1 8 Tryd.underlying30 hi0 hz0 hz1 hz2 rfl (by decide) (.slice ia m ic) m _ rfl (hrd.alloc _) ⟨w4.heap.size, 0, none⟩ 1 1 [.int .i64 n] rfl rfl one_cell (by simp [Value.oneCell']) (by unfold maxLen; omega) (by omega) ?_; intro qa qc w5 ho5 hg5 hw5; have hp5 := hpd.upto (((Upto.refl [] w4).alloc (.cells #[.int .i64 n] 3)).mono (by simp) |>.trans_same hg5) (fun g hg hm => hap' g (Option.mem_toList.1 hm) hg))
            | (go_at_call 13; refine (plen_calls hp5).mono ?_; rintro e w6 ⟨rfl, rfl⟩))
          have hst := skAt_next HK.out (ids := ids) (n := n) hlen hlook hul hl3 hn3 hap hnw hs3 hap' hup0 hs31 hs34 hwd hp5 ho5 hg5 hw5 hSlt
          go_roundw
          case rel => exact ⟨m + 1, qa, qc, us', ids ++ [n], S', by omega, by omega, by go_num, rfl, hst⟩
          case measure => simp [intOf]; omega
    · go_wp2
      all_goals
        go_ret
        exact ⟨rfl, hup⟩
end Go.Proofs.YtffnkjlobflhcaaDoor
