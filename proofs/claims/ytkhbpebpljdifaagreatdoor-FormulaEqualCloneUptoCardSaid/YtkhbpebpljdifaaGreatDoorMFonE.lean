/- Texts merged, in build order: Lib, Fm40, Ze, Zs, Za, Zo, Zq, Cl, Cm, Sp, Cn. -/
import Derived.Test.YtkhbpebpljdifaaGreatDoorMFog
import Derived.Laws.AppendOwn
namespace Go.PL
open Go.RowKit Go.MapKept
open Go.Maps (Keyed)
theorem Upto.frozen {S : List Nat} {w w' : World} (h : Upto S w w') {p : Addr} (hp : p.block < w.heap.size) (hn : p.block ∉ S) : w'.frozen? p = w.frozen? p := World.frozen?_of_block (w := w) (h.block p.block hp hn)
section
variable {P : Program} {k : TypeId} {w w' : World} {b : Nat} {L : List (Value × Value)}
end
section
variable {P : Program} (w : World) {ops : Array Oper} {rest : List Oper} {o : Oper} {a : Act} {Q : Exit → Act → World → Prop}
end
theorem set_other {w : World} {p q : Nat} {o : Option Obj} (h : w.heap[q]? = o) (hn : q ≠ p) (i : Nat) (v : Value) : (w.setCell ⟨p, i, none⟩ v).heap[q]? = o := by
  rw [Below.heap_setCell _ _ _ _ hn]; exact h
section
variable {P : Program} (w : World)
end
section
variable {P : Program} (w : World)
end
section
variable {P : Program} (w : World) {o : Oper} {ac : Act} {Q : Exit → Act → World → Prop}
end
end Go.PL
namespace Go.Proofs.YtkhbpebpljdifaaGreatDoor
open Go.RowKit Go.PL Go.Maps
mutual
def sameF : Nd → Nd → Bool
  | .mk op xs so n m l, .mk op' xs' so' n' m' l' => decide (op = op') && decide (so = so') && decide (n = n') && decide (m = m') && decide (xs = xs') && samesF l l'
def samesF : List Nd → List Nd → Bool
  | [], [] => true
  | x :: r, y :: t => sameF x y && samesF r t
  | [], _ :: _ => false
  | _ :: _, [] => false
end
mutual
theorem sameF_eq : ∀ (a b : Nd), sameF a b = true ↔ a = b
  | .mk op xs so n m l, .mk op' xs' so' n' m' l' => by
    unfold sameF
    simp only [Bool.and_eq_true, decide_eq_true_eq, samesF_eq l l', Nd.mk.injEq]
    constructor
    · rintro ⟨⟨⟨⟨⟨h1, h2⟩, h3⟩, h4⟩, h5⟩, h6⟩; exact ⟨h1, h5, h2, h3, h4, h6⟩
    · rintro ⟨h1, h5, h2, h3, h4, h6⟩; exact ⟨⟨⟨⟨⟨h1, h2⟩, h3⟩, h4⟩, h5⟩, h6⟩
theorem samesF_eq : ∀ (a b : List Nd), samesF a b = true ↔ a = b
  | [], [] => by simp [samesF]
  | x :: r, y :: t => by
    unfold samesF
    simp only [Bool.and_eq_true, sameF_eq x y, samesF_eq r t, List.cons.injEq]
  | [], _ :: _ => by simp [samesF]
  | _ :: _, [] => by simp [samesF]
end
mutual
def hugeN : Nd → Prop
  | .mk _ names _ _ _ l => names.length ≤ 281474976710656 ∧ l.length ≤ 281474976710656 ∧ hugesN l
def hugesN : List Nd → Prop
  | [] => True
  | x :: xs => hugeN x ∧ hugesN xs
end
theorem huges_mem : ∀ {l : List Nd} {x : Nd}, hugesN l → x ∈ l → hugeN x
  | a :: l, x, h, hx => by
    unfold hugesN at h
    rcases List.mem_cons.1 hx with rfl | hx
    · exact h.1
    · exact huges_mem h.2 hx
theorem len_size : ∀ (l : List Nd), l.length ≤ sizesF l
  | [] => by simp
  | x :: l => by have := len_size l; have := sizeF_pos x; simp only [sizesF, List.length_cons]; omega
mutual
theorem huge_of : ∀ (n : Nd), sizeF n ≤ 10000000 → bigN n → hugeN n
  | .mk _ names _ _ _ l, hs, hb => by
    unfold bigN at hb
    unfold hugeN
    simp only [sizeF] at hs
    have := len_size l
    exact ⟨by omega, by omega, huges_of l (by omega) hb.2⟩
theorem huges_of : ∀ (l : List Nd), sizesF l ≤ 10000000 → bigsN l → hugesN l
  | [], _, _ => by unfold hugesN; trivial
  | x :: l, hs, hb => by
    unfold bigsN at hb
    unfold hugesN
    simp only [sizesF] at hs
    exact ⟨huge_of x (by omega) hb.1, huges_of l (by omega) hb.2⟩
end
theorem nd_open {w : World} {P : Nat → Prop} {op so n m : Int} {xs : List (List UInt8)} {ls : List Nd} {v : Value} (h : NdV w P (.mk op xs so n m ls) v) : ∃ na nc la lc, v = .agg #[.int .i64 op, .slice na xs.length nc, .int .i64 so, .int .i64 n, .int .i64 m, .slice la ls.length lc] ∧
    (∀ i x, xs[i]? = some x → ∃ g o, na = some ⟨g, o, none⟩ ∧ w.cell? ⟨g, o + i, none⟩ = some (.string ⟨x.toArray⟩)) ∧
    (∀ i x, ls[i]? = some x → ∃ g o v0 v1 v2 v3 v4 v5, la = some ⟨g, o, none⟩ ∧ w.cell? ⟨g, o + i * 6, none⟩ = some v0 ∧ w.cell? ⟨g, o + i * 6 + 1, none⟩ = some v1 ∧ w.cell? ⟨g, o + i * 6 + 2, none⟩ = some v2 ∧ w.cell? ⟨g, o + i * 6 + 3, none⟩ = some v3 ∧ w.cell? ⟨g, o + i * 6 + 4, none⟩ = some v4 ∧ w.cell? ⟨g, o + i * 6 + 5, none⟩ = some v5 ∧ NdV w P x (.agg #[v0, v1, v2, v3, v4, v5])) := by
  unfold NdV at h
  obtain ⟨vn, vl, rfl, hs, hl⟩ := h
  obtain ⟨na, nc, rfl, hg⟩ := hs.get
  have hg' : ∀ i x, xs[i]? = some x → ∃ g o, na = some ⟨g, o, none⟩ ∧ w.cell? ⟨g, o + i, none⟩ = some (.string ⟨x.toArray⟩) := fun i x hi => hg i _ (by rw [List.getElem?_map, hi]; rfl)
  rcases hl with ⟨rfl, a, c, rfl⟩ | ⟨g, o, c, rfl, -, hd⟩
  · exact ⟨na, nc, a, c, rfl, hg', fun i x hi => by simp at hi⟩
  · refine ⟨na, nc, _, c, rfl, hg', fun i x hi => ?_⟩
    obtain ⟨v0, v1, v2, v3, v4, v5, c0, c1, c2, c3, c4, c5, hn⟩ := NdsV.get ls o i x hd hi
    exact ⟨g, o, v0, v1, v2, v3, v4, v5, rfl, c0, c1, c2, c3, c4, c5, hn⟩
theorem sizes_memb {x : Nd} : ∀ {l : List Nd}, x ∈ l → sizeF x ≤ sizesF l
  | a :: l, h => by
    simp only [sizesF]
    rcases List.mem_cons.1 h with rfl | h
    · omega
    · have := sizes_memb h; omega
theorem six_form {w : World} {P : Nat → Prop} {x : Nd} {v0 v1 v2 v3 v4 v5 : Value} (h : NdV w P x (.agg #[v0, v1, v2, v3, v4, v5])) : ∃ (op : Int) (a1 : Option Addr) (n1 c1 : Nat) (so n m : Int) (a2 : Option Addr) (n2 c2 : Nat), v0 = .int .i64 op ∧ v1 = .slice a1 n1 c1 ∧ v2 = .int .i64 so ∧ v3 = .int .i64 n ∧ v4 = .int .i64 m ∧ v5 = .slice a2 n2 c2 := by
  obtain ⟨op, a1, n1, c1, so, n, m, a2, n2, c2, e⟩ := h.six
  simp only [Value.agg.injEq, Array.mk.injEq, List.cons.injEq, and_true] at e
  exact ⟨op, a1, n1, c1, so, n, m, a2, n2, c2, e.1, e.2.1, e.2.2.1, e.2.2.2.1, e.2.2.2.2.1, e.2.2.2.2.2⟩
set_option maxRecDepth 100000 in
set_option maxHeartbeats 12800000 in
theorem same_calls : ∀ (k : Nat) (a : Nd), sizeF a ≤ k → hugeN a → ∀ (b : Nd) (P P' : Nat → Prop) (v v' : Value) (w : World), NdV w P a v → NdV w P' b v' → Calls Tryz.prog 23 #[v, v'] w fun e w' => e = .returned (.bool (sameF a b)) ∧ Upto [] w w'
  | 0, a, hn, _ => by have := sizeF_pos a; omega
  | k + 1, .mk op xs so n m ls, hn, hh => by
    intro b P P' v v' w h h'
    obtain ⟨op', xs', so', n', m', ls'⟩ := b
    obtain ⟨na, nc, la, lc, rfl, hgn, hgl⟩ := nd_open h
    obtain ⟨na', nc', la', lc', rfl, hgn', hgl'⟩ := nd_open h'
    clear h h'
    unfold hugeN at hh
    obtain ⟨hx48, hl48, hhs⟩ := hh
    simp only [sizeF] at hn
    have HIH : Hid (∀ (x : Nd), x ∈ ls → ∀ (b : Nd) (P P' : Nat → Prop) (v v' : Value) (w : World), NdV w P x v → NdV w P' b v' → Calls Tryz.prog 23 #[v, v'] w fun e w' => e = .returned (.bool (sameF x b)) ∧ Upto [] w w') := Lib.hid (fun x hx => same_calls k x (by have := sizes_memb hx; omega) (huges_mem hhs hx))
    clear hn hhs
    have hu2 : Upto [] w ((w.alloc (.cells #[.int .i64 op, .slice na xs.length nc, .int .i64 so, .int .i64 n, .int .i64 m, .slice la ls.length lc] 25)).alloc (.cells #[.int .i64 op', .slice na' xs'.length nc', .int .i64 so', .int .i64 n', .int .i64 m', .slice la' ls'.length lc'] 25)) := ((Upto.refl [] w).alloc _).alloc _
    have hb1 := alloc_old (new_at w (.cells #[.int .i64 op, .slice na xs.length nc, .int .i64 so, .int .i64 n, .int .i64 m, .slice la ls.length lc] 25)) (.cells #[.int .i64 op', .slice na' xs'.length nc', .int .i64 so', .int .i64 n', .int .i64 m', .slice la' ls'.length lc'] 25)
    have hb2 := new_at1 w (.cells #[.int .i64 op, .slice na xs.length nc, .int .i64 so, .int .i64 n, .int .i64 m, .slice la ls.length lc] 25) (.cells #[.int .i64 op', .slice na' xs'.length nc', .int .i64 so', .int .i64 n', .int .i64 m', .slice la' ls'.length lc'] 25)
    have HU2 := Lib.hid hu2
    have HB1 := Lib.hid hb1
    have HB2 := Lib.hid hb2
    have HN := Lib.hid hgn
    have HN' := Lib.hid hgn'
    have HL := Lib.hid hgl
    have HL' := Lib.hid hgl'
    obtain ⟨xa0, xa1, xa2, xa3, xa4, xa5⟩ := cells6 hb1
    obtain ⟨xb0, xb1, xb2, xb3, xb4, xb5⟩ := cells6 hb2
    have n0 : (0 : Int) ≤ xs.length := by omega
    have n1 : (xs.length : Int) ≤ 281474976710656 := by omega
    have l0 : (0 : Int) ≤ ls.length := by omega
    have l1 : (ls.length : Int) ≤ 281474976710656 := by omega
    clear hu2 hb1 hb2 hgn hgn' hgl hgl'
    by_cases e0 : ¬ (op = op')
    · have HF : Hid (sameF (.mk op xs so n m ls) (.mk op' xs' so' n' m' ls') = false) := Lib.hid (by unfold sameF; simp [e0])
      have q1 : (op == op') = false := by rw [beq_eq_false_iff_ne]; exact e0
      have q2 : (op != op') = true := by rw [bne, q1]; rfl
      clear e0
      go_enter Tryz.func23, Tryz.ntmps23
      go_wp2_with fail
      go_ret
      rw [HF.out]
      exact ⟨rfl, HU2.out⟩
    have e0 := Decidable.not_not.1 e0
    subst e0
    by_cases e1 : ¬ (so = so')
    · have HF : Hid (sameF (.mk op xs so n m ls) (.mk op xs' so' n' m' ls') = false) := Lib.hid (by unfold sameF; simp [e1])
      have q1 : (so == so') = false := by rw [beq_eq_false_iff_ne]; exact e1
      have q2 : (so != so') = true := by rw [bne, q1]; rfl
      clear e1
      go_enter Tryz.func23, Tryz.ntmps23
      go_wp2_with fail
      go_ret
      rw [HF.out]
      exact ⟨rfl, HU2.out⟩
    have e1 := Decidable.not_not.1 e1
    subst e1
    by_cases e2 : ¬ (n = n')
    · have HF : Hid (sameF (.mk op xs so n m ls) (.mk op xs' so n' m' ls') = false) := Lib.hid (by unfold sameF; simp [e2])
      have q1 : (n == n') = false := by rw [beq_eq_false_iff_ne]; exact e2
      have q2 : (n != n') = true := by rw [bne, q1]; rfl
      clear e2
      go_enter Tryz.func23, Tryz.ntmps23
      go_wp2_with fail
      go_ret
      rw [HF.out]
      exact ⟨rfl, HU2.out⟩
    have e2 := Decidable.not_not.1 e2
    subst e2
    by_cases e3 : ¬ (m = m')
    · have HF : Hid (sameF (.mk op xs so n m ls) (.mk op xs' so n m' ls') = false) := Lib.hid (by unfold sameF; simp [e3])
      have q1 : (m == m') = false := by rw [beq_eq_false_iff_ne]; exact e3
      have q2 : (m != m') = true := by rw [bne, q1]; rfl
      clear e3
      go_enter Tryz.func23, Tryz.ntmps23
      go_wp2_with fail
      go_ret
      rw [HF.out]
      exact ⟨rfl, HU2.out⟩
    have e3 := Decidable.not_not.1 e3
    subst e3
    by_cases e4 : ¬ (xs.length = xs'.length)
    · have HF : Hid (sameF (.mk op xs so n m ls) (.mk op xs' so n m ls') = false) := Lib.hid (by
        unfold sameF
        have : xs ≠ xs' := fun h => e4 (by rw [h])
        simp [this])
      have q1 : ((xs.length : Int) == (xs'.length : Int)) = false := by rw [beq_eq_false_iff_ne]; omega
      have q2 : ((xs.length : Int) != (xs'.length : Int)) = true := by rw [bne, q1]; rfl
      clear e4
      go_enter Tryz.func23, Tryz.ntmps23
      go_wp2_with fail
      go_ret
      rw [HF.out]
      exact ⟨rfl, HU2.out⟩
    have e4 := Decidable.not_not.1 e4
    by_cases e5 : ¬ (ls.length = ls'.length)
    · have HF : Hid (sameF (.mk op xs so n m ls) (.mk op xs' so n m ls') = false) := Lib.hid (by
        unfold sameF
        have : samesF ls ls' = false := by
          rw [Bool.eq_false_iff]
          intro h
          rw [samesF_eq] at h
          exact e5 (by rw [h])
        simp [this])
      have q0 : ((xs.length : Int) != (xs'.length : Int)) = false := by rw [e4]; simp
      have q1 : ((ls.length : Int) == (ls'.length : Int)) = false := by rw [beq_eq_false_iff_ne]; omega
      have q2 : ((ls.length : Int) != (ls'.length : Int)) = true := by rw [bne, q1]; rfl
      clear e4 e5
      go_enter Tryz.func23, Tryz.ntmps23
      go_wp2_with fail
      go_ret
      rw [HF.out]
      exact ⟨rfl, HU2.out⟩
    have e5 := Decidable.not_not.1 e5
    have q0 : ((xs.length : Int) != (xs'.length : Int)) = false := by rw [e4]; simp
    have q00 : ((ls.length : Int) != (ls'.length : Int)) = false := by rw [e5]; simp
    have E4 := Lib.hid e4
    have E5 := Lib.hid e5
    clear e4 e5
    go_enter Tryz.func23, Tryz.ntmps23
    go_wp2_with fail
    generalize hW2 : (w.alloc (.cells #[.int .i64 op, .slice na xs.length nc, .int .i64 so, .int .i64 n, .int .i64 m, .slice la ls.length lc] 25)).alloc (.cells #[.int .i64 op, .slice na' xs'.length nc', .int .i64 so, .int .i64 n, .int .i64 m, .slice la' ls'.length lc'] 25) = W2 at *
    clear hW2
    go_loopw [5] (fun t5 wr => ∃ j : Nat, j ≤ xs.length ∧ t5 = .int .i64 j ∧ Hid (∀ i, i < j → xs[i]? = xs'[i]?) ∧ Hid (Upto [] W2 wr)) (fun t5 _ => xs.length - (intOf t5).toNat)
    case atStart => exact ⟨0, by omega, rfl, Lib.hid (fun i hi => by omega), Lib.hid (Upto.refl _ _)⟩
    case round =>
      obtain ⟨j, hj, rfl, HE, HU⟩ := hrel
      have hj0 : (0 : Int) ≤ j := by omega
      have h1 := HU.out.at HB1.out (by simp)
      have h2 := HU.out.at HB2.out (by simp)
      have hd := (Upto.refl [] wr).drew
      have h3 := hd.at h1 (by simp)
      have h4 := hd.at h2 (by simp)
      have y1 := cell_of h1 1
      have y2 := cell_of h2 1
      have y3 := cell_of h3 1
      have y4 := cell_of h4 1
      have z1 := cell_of h1 5
      have z2 := cell_of h2 5
      simp only [List.getElem?_toArray, List.getElem?_cons_zero, List.getElem?_cons_succ] at y1 y2 y3 y4 z1 z2
      rcases Nat.lt_or_ge j xs.length with hlt | hge
      · have hltI : (j : Int) < xs.length := by omega
        have hltJ : (j : Int) < xs'.length := by have := E4.out; omega
        obtain ⟨x, hx⟩ : ∃ x, xs[j]? = some x := ⟨_, List.getElem?_eq_getElem hlt⟩
        obtain ⟨y, hy⟩ : ∃ y, xs'[j]? = some y := ⟨_, List.getElem?_eq_getElem (by have := E4.out; omega)⟩
        obtain ⟨g, og, rfl, c0⟩ := HN.out j x hx
        obtain ⟨g', og', rfl, c1⟩ := HN'.out j y hy
        have hw := HU2.out.trans_ext HU.out
        replace c0 := up_cell hw c0
        replace c1 := up_cell hw c1
        have d0 := (hd.cell (p := ⟨g, og + j, none⟩) (World.block_lt_of_cell? wr _ c0) (by simp)).trans c0
        have d1 := (hd.cell (p := ⟨g', og' + j, none⟩) (World.block_lt_of_cell? wr _ c1) (by simp)).trans c1
        have HD := Lib.hid (HU.out.trans_ext hd)
        by_cases hxy : x = y
        · subst hxy
          have HE2 : Hid (∀ i, i < j + 1 → xs[i]? = xs'[i]?) := Lib.hid (fun i hi => by
            by_cases hij : i = j
            · subst hij; rw [hx, hy]
            · exact HE.out i (by omega))
          clear hx hy hd h1 h2 h3 h4 HE hw
          go_wp2_with fail
          go_region
          all_goals (
            go_wp2_with fail
            go_roundw
            case rel => exact ⟨j + 1, by omega, by go_num, HE2, HD⟩
            case measure => simp [intOf]; omega)
        · have HF : Hid (sameF (.mk op xs so n m ls) (.mk op xs' so n m ls') = false) := Lib.hid (by
            unfold sameF
            have : xs ≠ xs' := fun h => by
              rw [h, hy] at hx
              exact hxy (Option.some.inj hx).symm
            simp [this])
          have q1 : (x == y) = false := by simpa using hxy
          have q2 : (x != y) = true := by rw [bne, q1]; rfl
          have HW := Lib.hid (HU2.out.trans_ext HD.out)
          clear hx hy hd h1 h2 h3 h4 HE hw hxy
          go_wp2_with fail
          go_region
          all_goals (
            go_wp2_with fail
            go_ret
            rw [HF.out]
            exact ⟨rfl, HW.out⟩)
      · have hgeI : ¬ (j : Int) < xs.length := by omega
        obtain rfl : xs = xs' := by
          apply List.ext_getElem?
          intro i
          by_cases hi : i < j
          · exact HE.out i hi
          · rw [List.getElem?_eq_none (by omega), List.getElem?_eq_none (by have := E4.out; omega)]
        have HUA := Lib.hid (HU2.out.trans_ext HU.out)
        have HA1 := Lib.hid h1
        have HA2 := Lib.hid h2
        clear hd h1 h2 h3 h4 y3 y4 HE HU HB1 HB2
        go_wp2_with fail
        go_loopw [6] (fun t6 wx => ∃ i : Nat, i ≤ ls.length ∧ t6 = .int .i64 i ∧ Hid (∀ q x y, q < i → ls[q]? = some x → ls'[q]? = some y → x = y) ∧ Hid (Upto [] wr wx)) (fun t6 _ => ls.length - (intOf t6).toNat)
        case atStart => exact ⟨0, by omega, rfl, Lib.hid (fun q x y hq => by omega), Lib.hid (Upto.refl _ _)⟩
        case round =>
          clear y1 y2 z1 z2
          obtain ⟨i, hi, rfl, HE, HU⟩ := hrel
          have hi0 : (0 : Int) ≤ i := by omega
          have h1 := HU.out.at HA1.out (by simp)
          have h2 := HU.out.at HA2.out (by simp)
          have z1 := cell_of h1 5
          have z2 := cell_of h2 5
          simp only [List.getElem?_toArray, List.getElem?_cons_zero, List.getElem?_cons_succ] at z1 z2
          have HW := Lib.hid (HUA.out.trans_ext HU.out)
          rcases Nat.lt_or_ge i ls.length with hlt | hge
          · have hltI : (i : Int) < ls.length := by omega
            have hltJ : (i : Int) < ls'.length := by have := E5.out; omega
            obtain ⟨x, hx⟩ : ∃ x, ls[i]? = some x := ⟨_, List.getElem?_eq_getElem hlt⟩
            obtain ⟨y, hy⟩ : ∃ y, ls'[i]? = some y := ⟨_, List.getElem?_eq_getElem (by have := E5.out; omega)⟩
            obtain ⟨g, og, v0, v1, v2, v3, v4, v5, rfl, c0, c1, c2, c3, c4, c5, hnx⟩ := HL.out i x hx
            obtain ⟨g', og', u0, u1, u2, u3, u4, u5, rfl, d0, d1, d2, d3, d4, d5, hny⟩ := HL'.out i y hy
            obtain ⟨r1, r2, r3, r4, r5, r6, r7, r8, r9, r10, rfl, rfl, rfl, rfl, rfl, rfl⟩ := six_form hnx
            obtain ⟨s1, s2, s3, s4, s5, s6, s7, s8, s9, s10, rfl, rfl, rfl, rfl, rfl, rfl⟩ := six_form hny
            have hC : ∀ u, Upto [] wr u → Calls Tryz.prog 23 #[.agg #[.int .i64 r1, .slice r2 r3 r4, .int .i64 r5, .int .i64 r6, .int .i64 r7, .slice r8 r9 r10], .agg #[.int .i64 s1, .slice s2 s3 s4, .int .i64 s5, .int .i64 s6, .int .i64 s7, .slice s8 s9 s10]] u fun e w' => e = .returned (.bool (sameF x y)) ∧ Upto [] u w' := fun u hu => HIH.out x (List.mem_of_getElem? hx) y _ _ _ _ u (hnx.ext (HW.out.trans_ext hu)) (hny.ext (HW.out.trans_ext hu))
            replace c0 := up_cell HW.out c0
            replace c1 := up_cell HW.out c1
            replace c2 := up_cell HW.out c2
            replace c3 := up_cell HW.out c3
            replace c4 := up_cell HW.out c4
            replace c5 := up_cell HW.out c5
            replace d0 := up_cell HW.out d0
            replace d1 := up_cell HW.out d1
            replace d2 := up_cell HW.out d2
            replace d3 := up_cell HW.out d3
            replace d4 := up_cell HW.out d4
            replace d5 := up_cell HW.out d5
            have ec0 := fun u : Ext wr => u.cell c0
            have ec1 := fun u : Ext wr => u.cell c1
            have ec2 := fun u : Ext wr => u.cell c2
            have ec3 := fun u : Ext wr => u.cell c3
            have ec4 := fun u : Ext wr => u.cell c4
            have ec5 := fun u : Ext wr => u.cell c5
            have ed0 := fun u : Ext wr => u.cell d0
            have ed1 := fun u : Ext wr => u.cell d1
            have ed2 := fun u : Ext wr => u.cell d2
            have ed3 := fun u : Ext wr => u.cell d3
            have ed4 := fun u : Ext wr => u.cell d4
            have ed5 := fun u : Ext wr => u.cell d5
            have ez1 := fun u : Ext wr => u.cell z1
            have ez2 := fun u : Ext wr => u.cell z2
            have HC := Lib.hid hC
            have hbb : sameF x y = true ∨ sameF x y = false := by cases sameF x y <;> simp
            rcases hbb with hb | hb
            · have HE2 : Hid (∀ q x y, q < i + 1 → ls[q]? = some x → ls'[q]? = some y → x = y) := Lib.hid (fun q x' y' hq hx' hy' => by
                by_cases hqi : q = i
                · subst hqi
                  rw [hx] at hx'
                  rw [hy] at hy'
                  cases hx'
                  cases hy'
                  exact (sameF_eq x y).1 hb
                · exact HE.out q x' y' (by omega) hx' hy')
              rw [hb] at HC
              clear hx hy hnx hny h1 h2 HE hC hb
              go_wp2_with fail
              refine wp_region_seg_all [10] [] [0, 1, 2, 3, 4, 5, 6, 7, 8, 9, 10, 11] (by kernel_rfl) (by kernel_rfl) ?_
              iterate 10 (refine seg_plain rfl rfl rfl rfl rfl ?_; intro K' hK'; go_big_quiet_op; go_big_quiet_on)
              refine seg_call rfl rfl rfl rfl (fun w => by go_simp) (fun w hu hd => HC.out w hu) ?_
              simp only [Act.put, List.setIfInBounds_toArray, List.set_cons_zero, List.set_cons_succ]
              (refine seg_plain rfl rfl rfl rfl rfl ?_; intro K' hK'; go_big_quiet_op; go_big_quiet_on)
              intro w9 hg
              have HW9 := Lib.hid (HU.out.trans_ext hg.up)
              clear hg
              go_wp2_with fail
              go_roundw
              case rel => exact ⟨i + 1, by omega, by go_num, HE2, HW9⟩
              case measure => simp [intOf]; omega
            · have HF : Hid (sameF (.mk op xs so n m ls) (.mk op xs so n m ls') = false) := Lib.hid (by
                rw [Bool.eq_false_iff]
                intro h
                rw [sameF_eq] at h
                injection h with _ _ _ _ _ h6
                rw [h6, hy] at hx
                have := Option.some.inj hx
                subst this
                rw [(sameF_eq y y).2 rfl] at hb
                cases hb)
              rw [hb] at HC
              clear hx hy hnx hny h1 h2 HE hC hb
              go_wp2_with fail
              refine wp_region_seg_all [10] [] [0, 1, 2, 3, 4, 5, 6, 7, 8, 9, 10, 11] (by kernel_rfl) (by kernel_rfl) ?_
              iterate 10 (refine seg_plain rfl rfl rfl rfl rfl ?_; intro K' hK'; go_big_quiet_op; go_big_quiet_on)
              refine seg_call rfl rfl rfl rfl (fun w => by go_simp) (fun w hu hd => HC.out w hu) ?_
              simp only [Act.put, List.setIfInBounds_toArray, List.set_cons_zero, List.set_cons_succ]
              (refine seg_plain rfl rfl rfl rfl rfl ?_; intro K' hK'; go_big_quiet_op; go_big_quiet_on)
              intro w9 hg
              have HW9 := Lib.hid (HW.out.trans_ext hg.up)
              clear hg
              go_wp2_with fail
              go_ret
              rw [HF.out]
              exact ⟨rfl, HW9.out⟩
          · have hgeI : ¬ (i : Int) < ls.length := by omega
            obtain rfl : ls = ls' := by
              apply List.ext_getElem?
              intro q
              by_cases hq : q < ls.length
              · rw [List.getElem?_eq_getElem hq, List.getElem?_eq_getElem (by have := E5.out; omega)]
                congr 1
                exact HE.out q _ _ (by omega) (List.getElem?_eq_getElem hq) (List.getElem?_eq_getElem _)
              · rw [List.getElem?_eq_none (by omega), List.getElem?_eq_none (by have := E5.out; omega)]
            clear h1 h2 HE
            go_wp2_with fail
            go_ret
            rw [(sameF_eq _ _).2 rfl]
            exact ⟨rfl, HW.out⟩
set_option maxRecDepth 100000 in
set_option maxHeartbeats 6400000 in
theorem names_calls (xs ys : List (List UInt8)) (v v' : Value) (P P' : Nat → Prop) (w : World) (hl : xs.length ≤ 10000000) (_hl' : ys.length ≤ 10000000) (h : SlP w P v xs.length (xs.map sV)) (h' : SlP w P' v' ys.length (ys.map sV)) : Calls Tryz.prog 60 #[v, v'] w fun e w' => e = .returned (.bool (decide (xs = ys))) ∧ Upto [] w w' := by
  obtain ⟨a, c, rfl, hg⟩ := h.get
  obtain ⟨a', c', rfl, hg'⟩ := h'.get
  have HG : Hid (∀ i x, xs[i]? = some x → ∃ g o, a = some ⟨g, o, none⟩ ∧ w.cell? ⟨g, o + i, none⟩ = some (.string ⟨x.toArray⟩)) := Lib.hid (fun i x hi => hg i _ (by rw [List.getElem?_map, hi]; rfl))
  have HG' : Hid (∀ i x, ys[i]? = some x → ∃ g o, a' = some ⟨g, o, none⟩ ∧ w.cell? ⟨g, o + i, none⟩ = some (.string ⟨x.toArray⟩)) := Lib.hid (fun i x hi => hg' i _ (by rw [List.getElem?_map, hi]; rfl))
  have HU0 := Lib.hid (Upto.refl [] w)
  clear h h' hg hg'
  by_cases hne : xs.length ≠ ys.length
  · have HF : Hid (decide (xs = ys) = false) := Lib.hid (by simp; intro e; exact hne (by rw [e]))
    rw [HF.out]
    generalize hA : xs.length = A at *
    generalize hB : ys.length = B at *
    have q1 : ((A : Int) == (B : Int)) = false := by rw [beq_eq_false_iff_ne]; omega
    have q2 : ((A : Int) != (B : Int)) = true := by rw [bne, q1]; rfl
    clear hne HF hA hB
    go_enter Tryz.func60, Tryz.ntmps60
    go_wp2_with fail
    go_ret
    exact ⟨rfl, HU0.out⟩
  have hne := Decidable.not_not.1 hne
  obtain ⟨ll, hll⟩ : ∃ ll, xs.length = ll := ⟨_, rfl⟩
  have hll' : ys.length = ll := hne ▸ hll
  have HLL := Lib.hid (And.intro hll hll')
  rw [hll, hll']
  have hL0 : (0 : Int) ≤ ll := by omega
  have hL1 : (ll : Int) ≤ 10000000 := by omega
  clear hll hll' hl _hl' hne
  obtain ⟨R, hR⟩ : ∃ R, Hid (decide (xs = ys) = R) := ⟨_, Lib.hid rfl⟩
  rw [hR.out]
  go_enter Tryz.func60, Tryz.ntmps60
  go_wp2_with fail
  go_loopw [13] (fun i wr => ∃ j : Nat, j ≤ ll ∧ i = .int .i64 j ∧ Hid (∀ q, q < j → xs[q]? = ys[q]?) ∧ Hid (Upto [] w wr)) (fun i _ => ll - (intOf i).toNat)
  case atStart => exact ⟨0, by omega, rfl, Lib.hid (fun q hq => by omega), Lib.hid (Upto.refl _ _)⟩
  case round =>
    obtain ⟨j, hj, rfl, HE, HU⟩ := hrel
    have hj0 : (0 : Int) ≤ j := by omega
    rcases Nat.lt_or_ge j ll with hlt | hge
    · obtain ⟨x, hx⟩ : ∃ x, xs[j]? = some x := ⟨_, List.getElem?_eq_getElem (by have := HLL.out.1; omega)⟩
      obtain ⟨y, hy⟩ : ∃ y, ys[j]? = some y := ⟨_, List.getElem?_eq_getElem (by have := HLL.out.2; omega)⟩
      obtain ⟨g, o, rfl, c0⟩ := HG.out j x hx
      obtain ⟨g', o', rfl, c1⟩ := HG'.out j y hy
      replace c0 := up_cell HU.out c0
      replace c1 := up_cell HU.out c1
      have hd := (Upto.refl [] wr).drew
      have d0 := (hd.cell (p := ⟨g, o + j, none⟩) (World.block_lt_of_cell? wr _ c0) (by simp)).trans c0
      have d1 := (hd.cell (p := ⟨g', o' + j, none⟩) (World.block_lt_of_cell? wr _ c1) (by simp)).trans c1
      have HD := Lib.hid (HU.out.trans_ext hd)
      have hltI : (j : Int) < ll := by omega
      by_cases hxy : x = y
      · subst hxy
        have HE2 : Hid (∀ q, q < j + 1 → xs[q]? = ys[q]?) := Lib.hid (fun q hq => by
          by_cases hqj : q = j
          · subst hqj; rw [hx, hy]
          · exact HE.out q (by omega))
        clear hx hy hd HE
        go_wp2_with fail
        go_region
        all_goals (
          go_wp2_with fail
          go_roundw
          case rel => exact ⟨j + 1, by omega, by go_num, HE2, HD⟩
          case measure => simp [intOf]; omega)
      · have HF : Hid (R = false) := Lib.hid (by
          rw [← hR.out, decide_eq_false_iff_not]
          intro h
          rw [h, hy] at hx
          exact hxy (Option.some.inj hx).symm)
        have q1 : (x == y) = false := by simpa using hxy
        have q2 : (x != y) = true := by rw [bne, q1]; rfl
        clear hx hy hd HE hxy
        go_wp2_with fail
        go_region
        all_goals (
          go_wp2_with fail
          go_ret
          rw [HF.out]
          exact ⟨rfl, HD.out⟩)
    · obtain rfl : j = ll := by omega
      have hgeI : (j : Int) ≥ j := by omega
      have HF : Hid (R = true) := Lib.hid (by
        rw [← hR.out, decide_eq_true_eq]
        apply List.ext_getElem?
        intro i
        by_cases hi : i < j
        · exact HE.out i hi
        · rw [List.getElem?_eq_none (by have := HLL.out.1; omega), List.getElem?_eq_none (by have := HLL.out.2; omega)])
      clear HE
      go_wp2
      go_ret
      rw [HF.out]
      exact ⟨rfl, HU.out⟩
set_option maxRecDepth 100000 in
set_option maxHeartbeats 6400000 in
theorem vars_calls (xs ys : List (List UInt8 × Int)) (v v' : Value) (P P' : Nat → Prop) (w : World) (hl : xs.length ≤ 10000000) (_hl' : ys.length ≤ 10000000) (h : VarsV w P v xs) (h' : VarsV w P' v' ys) : Calls Tryz.prog 59 #[v, v'] w fun e w' => e = .returned (.bool (decide (xs = ys))) ∧ Upto [] w w' := by
  obtain ⟨a, c, rfl, hg⟩ := SlP.get h
  obtain ⟨a', c', rfl, hg'⟩ := SlP.get h'
  have HG : Hid (∀ i x, xs[i]? = some x → ∃ g o, a = some ⟨g, o, none⟩ ∧ w.cell? ⟨g, o + i * 2, none⟩ = some (.string ⟨x.1.toArray⟩) ∧ w.cell? ⟨g, o + i * 2 + 1, none⟩ = some (.int .i64 x.2)) := Lib.hid (fun i x hi => by
    obtain ⟨g, o, rfl, h1⟩ := hg _ _ (vars_at hi).1
    obtain ⟨g2, o2, e, h2⟩ := hg _ _ (vars_at hi).2
    simp at e
    obtain ⟨rfl, rfl⟩ := e
    exact ⟨g, o, rfl, h1, h2⟩)
  have HG' : Hid (∀ i x, ys[i]? = some x → ∃ g o, a' = some ⟨g, o, none⟩ ∧ w.cell? ⟨g, o + i * 2, none⟩ = some (.string ⟨x.1.toArray⟩) ∧ w.cell? ⟨g, o + i * 2 + 1, none⟩ = some (.int .i64 x.2)) := Lib.hid (fun i x hi => by
    obtain ⟨g, o, rfl, h1⟩ := hg' _ _ (vars_at hi).1
    obtain ⟨g2, o2, e, h2⟩ := hg' _ _ (vars_at hi).2
    simp at e
    obtain ⟨rfl, rfl⟩ := e
    exact ⟨g, o, rfl, h1, h2⟩)
  have HU0 := Lib.hid (Upto.refl [] w)
  clear h h' hg hg'
  by_cases hne : xs.length ≠ ys.length
  · have HF : Hid (decide (xs = ys) = false) := Lib.hid (by simp; intro e; exact hne (by rw [e]))
    rw [HF.out]
    generalize hA : xs.length = A at *
    generalize hB : ys.length = B at *
    have q1 : ((A : Int) == (B : Int)) = false := by rw [beq_eq_false_iff_ne]; omega
    have q2 : ((A : Int) != (B : Int)) = true := by rw [bne, q1]; rfl
    clear hne HF hA hB
    go_enter Tryz.func59, Tryz.ntmps59
    go_wp2_with fail
    go_ret
    exact ⟨rfl, HU0.out⟩
  have hne := Decidable.not_not.1 hne
  obtain ⟨ll, hll⟩ : ∃ ll, xs.length = ll := ⟨_, rfl⟩
  have hll' : ys.length = ll := hne ▸ hll
  have HLL := Lib.hid (And.intro hll hll')
  rw [hll, hll']
  have hL0 : (0 : Int) ≤ ll := by omega
  have hL1 : (ll : Int) ≤ 10000000 := by omega
  clear hll hll' hl _hl' hne
  obtain ⟨R, hR⟩ : ∃ R, Hid (decide (xs = ys) = R) := ⟨_, Lib.hid rfl⟩
  rw [hR.out]
  go_enter Tryz.func59, Tryz.ntmps59
  go_wp2_with fail
  go_loopw [13] (fun i wr => ∃ j : Nat, j ≤ ll ∧ i = .int .i64 j ∧ Hid (∀ q, q < j → xs[q]? = ys[q]?) ∧ Hid (Upto [] w wr)) (fun i _ => ll - (intOf i).toNat)
  case atStart => exact ⟨0, by omega, rfl, Lib.hid (fun q hq => by omega), Lib.hid (Upto.refl _ _)⟩
  case round =>
    obtain ⟨j, hj, rfl, HE, HU⟩ := hrel
    have hj0 : (0 : Int) ≤ j := by omega
    rcases Nat.lt_or_ge j ll with hlt | hge
    · obtain ⟨x, hx⟩ : ∃ x, xs[j]? = some x := ⟨_, List.getElem?_eq_getElem (by have := HLL.out.1; omega)⟩
      obtain ⟨y, hy⟩ : ∃ y, ys[j]? = some y := ⟨_, List.getElem?_eq_getElem (by have := HLL.out.2; omega)⟩
      obtain ⟨g, o, rfl, c0, c1⟩ := HG.out j x hx
      obtain ⟨g', o', rfl, c2, c3⟩ := HG'.out j y hy
      replace c0 := up_cell HU.out c0
      replace c1 := up_cell HU.out c1
      replace c2 := up_cell HU.out c2
      replace c3 := up_cell HU.out c3
      have hd := (Upto.refl [] wr).drew
      have d0 := (hd.cell (p := ⟨g, o + j * 2, none⟩) (World.block_lt_of_cell? wr _ c0) (by simp)).trans c0
      have d1 := (hd.cell (p := ⟨g, o + j * 2 + 1, none⟩) (World.block_lt_of_cell? wr _ c1) (by simp)).trans c1
      have d2 := (hd.cell (p := ⟨g', o' + j * 2, none⟩) (World.block_lt_of_cell? wr _ c2) (by simp)).trans c2
      have d3 := (hd.cell (p := ⟨g', o' + j * 2 + 1, none⟩) (World.block_lt_of_cell? wr _ c3) (by simp)).trans c3
      have HD := Lib.hid (HU.out.trans_ext hd)
      have hltI : (j : Int) < ll := by omega
      obtain ⟨x1, x2⟩ := x
      obtain ⟨y1, y2⟩ := y
      simp only at c0 c1 c2 c3 d0 d1 d2 d3
      by_cases hxy : x1 = y1
      · subst hxy
        by_cases hxy2 : x2 = y2
        · subst hxy2
          have HE2 : Hid (∀ q, q < j + 1 → xs[q]? = ys[q]?) := Lib.hid (fun q hq => by
            by_cases hqj : q = j
            · subst hqj; rw [hx, hy]
            · exact HE.out q (by omega))
          clear hx hy hd HE
          go_wp2_with fail
          go_region
          all_goals (
            go_wp2_with fail
            go_roundw
            case rel => exact ⟨j + 1, by omega, by go_num, HE2, HD⟩
            case measure => simp [intOf]; omega)
        · have HF : Hid (R = false) := Lib.hid (by
            rw [← hR.out, decide_eq_false_iff_not]
            intro h
            rw [h, hy] at hx
            have := Option.some.inj hx
            simp at this
            exact hxy2 this.symm)
          have q1 : (x2 == y2) = false := by rw [beq_eq_false_iff_ne]; exact hxy2
          have q2 : (x2 != y2) = true := by rw [bne, q1]; rfl
          clear hx hy hd HE
          go_wp2_with fail
          go_region
          all_goals (
            go_wp2_with fail
            go_ret
            rw [HF.out]
            exact ⟨rfl, HD.out⟩)
      · have HF : Hid (R = false) := Lib.hid (by
          rw [← hR.out, decide_eq_false_iff_not]
          intro h
          rw [h, hy] at hx
          have := Option.some.inj hx
          simp at this
          exact hxy this.1.symm)
        have q1 : (x1 == y1) = false := by simpa using hxy
        have q2 : (x1 != y1) = true := by rw [bne, q1]; rfl
        clear hx hy hd HE
        go_wp2_with fail
        go_region
        all_goals (
          go_wp2_with fail
          go_ret
          rw [HF.out]
          exact ⟨rfl, HD.out⟩)
    · obtain rfl : j = ll := by omega
      have hgeI : (j : Int) ≥ j := by omega
      have HF : Hid (R = true) := Lib.hid (by
        rw [← hR.out, decide_eq_true_eq]
        apply List.ext_getElem?
        intro i
        by_cases hi : i < j
        · exact HE.out i hi
        · rw [List.getElem?_eq_none (by have := HLL.out.1; omega), List.getElem?_eq_none (by have := HLL.out.2; omega)])
      clear HE
      go_wp2
      go_ret
      rw [HF.out]
      exact ⟨rfl, HU.out⟩
set_option maxRecDepth 100000 in
set_option maxHeartbeats 6400000 in
theorem eqf_calls (l l' : List Nd) (a a' : Option Addr) (c c' : Nat) (P P' : Nat → Prop) (w : World) (hl : l.length ≤ 10000000) (_hl' : l'.length ≤ 10000000) (h : LsAt w P a l) (h' : LsAt w P' a' l')
    (ih : ∀ x ∈ l, ∀ y ∈ l', ∀ u u' w1, NdV w1 P x u → NdV w1 P' y u' → Calls Tryz.prog 28 #[u, u'] w1 fun e w' => e = .returned (.bool (sameF x y)) ∧ Upto [] w1 w') :
    Calls Tryz.prog 61 #[.slice a l.length c, .slice a' l'.length c', .func (.func 28) #[] #[]] w fun e w' => e = .returned (.bool (samesF l l')) ∧ Upto [] w w' := by
  have HG := Lib.hid h
  have HG' := Lib.hid h'
  have HIH := Lib.hid ih
  have HU0 := Lib.hid (Upto.refl [] w)
  clear h h' ih
  by_cases hne : l.length ≠ l'.length
  · have HF : Hid (samesF l l' = false) := Lib.hid (by
      rw [Bool.eq_false_iff]
      intro e
      rw [samesF_eq] at e
      exact hne (by rw [e]))
    rw [HF.out]
    generalize hA : l.length = A at *
    generalize hB : l'.length = B at *
    have q1 : ((A : Int) == (B : Int)) = false := by rw [beq_eq_false_iff_ne]; omega
    have q2 : ((A : Int) != (B : Int)) = true := by rw [bne, q1]; rfl
    clear hne HF hA hB
    go_enter Tryz.func61, Tryz.ntmps61
    go_wp2_with fail
    go_ret
    exact ⟨rfl, HU0.out⟩
  have hne := Decidable.not_not.1 hne
  obtain ⟨ll, hll⟩ : ∃ ll, l.length = ll := ⟨_, rfl⟩
  have hll' : l'.length = ll := hne ▸ hll
  have HLL := Lib.hid (And.intro hll hll')
  rw [hll, hll']
  have hL0 : (0 : Int) ≤ ll := by omega
  have hL1 : (ll : Int) ≤ 10000000 := by omega
  clear hll hll' hl _hl' hne
  obtain ⟨R, hR⟩ : ∃ R, Hid (samesF l l' = R) := ⟨_, Lib.hid rfl⟩
  rw [hR.out]
  go_enter Tryz.func61, Tryz.ntmps61
  go_wp2_with fail
  go_loopw [17] (fun i wr => ∃ j : Nat, j ≤ ll ∧ i = .int .i64 j ∧ Hid (∀ q x y, q < j → l[q]? = some x → l'[q]? = some y → x = y) ∧ Hid (Upto [] w wr)) (fun i _ => ll - (intOf i).toNat)
  case atStart => exact ⟨0, by omega, rfl, Lib.hid (fun q x y hq => by omega), Lib.hid (Upto.refl _ _)⟩
  case round =>
    obtain ⟨j, hj, rfl, HE, HU⟩ := hrel
    have hj0 : (0 : Int) ≤ j := by omega
    rcases Nat.lt_or_ge j ll with hlt | hge
    · obtain ⟨x, hx⟩ : ∃ x, l[j]? = some x := ⟨_, List.getElem?_eq_getElem (by have := HLL.out.1; omega)⟩
      obtain ⟨y, hy⟩ : ∃ y, l'[j]? = some y := ⟨_, List.getElem?_eq_getElem (by have := HLL.out.2; omega)⟩
      obtain ⟨g, o, xo, xn1, xn2, xn3, xs, xm, xq, xl1, xl2, xl3, rfl, -⟩ := HG.out j x hx
      obtain ⟨g', o', yo, yn1, yn2, yn3, ys, ym, yq, yl1, yl2, yl3, rfl, -⟩ := HG'.out j y hy
      obtain ⟨g1, o1, xo, xn1, xn2, xn3, xs, xm, xq, xl1, xl2, xl3, e1, c0, c1, c2, c3, c4, c5, hn⟩ := (HG.out.ext HU.out) j x hx
      have hua := (Upto.refl [] wr).alloc (.cells #[.int .i64 xo, .slice xn1 xn2 xn3, .int .i64 xs, .int .i64 xm, .int .i64 xq, .slice xl1 xl2 xl3] 34)
      obtain ⟨g2, o2, yo, yn1, yn2, yn3, ys, ym, yq, yl1, yl2, yl3, e2, d0, d1, d2, d3, d4, d5, hn'⟩ := (HG'.out.ext (HU.out.trans_ext hua)) j y hy
      simp at e1 e2
      obtain ⟨rfl, rfl⟩ := e1
      obtain ⟨rfl, rfl⟩ := e2
      have hub := (Upto.refl [] (wr.alloc (.cells #[.int .i64 xo, .slice xn1 xn2 xn3, .int .i64 xs, .int .i64 xm, .int .i64 xq, .slice xl1 xl2 xl3] 34))).alloc (.cells #[.int .i64 yo, .slice yn1 yn2 yn3, .int .i64 ys, .int .i64 ym, .int .i64 yq, .slice yl1 yl2 yl3] 34)
      have HC := Lib.hid (HIH.out x (List.mem_of_getElem? hx) y (List.mem_of_getElem? hy) _ _ ((wr.alloc (.cells #[.int .i64 xo, .slice xn1 xn2 xn3, .int .i64 xs, .int .i64 xm, .int .i64 xq, .slice xl1 xl2 xl3] 34)).alloc (.cells #[.int .i64 yo, .slice yn1 yn2 yn3, .int .i64 ys, .int .i64 ym, .int .i64 yq, .slice yl1 yl2 yl3] 34)) ((hn.ext hua).ext hub) (hn'.ext hub))
      have HU2 := Lib.hid ((HU.out.trans_ext hua).trans_ext hub)
      have hv8 := hub.at (new_at wr (.cells #[.int .i64 xo, .slice xn1 xn2 xn3, .int .i64 xs, .int .i64 xm, .int .i64 xq, .slice xl1 xl2 xl3] 34)) (by simp)
      obtain ⟨t0, t1, t2, t3, t4, t5⟩ := cells6 hv8
      obtain ⟨u0, u1, u2, u3, u4, u5⟩ := frees6 hv8
      have hltI : (j : Int) < ll := by omega
      have hbb : sameF x y = true ∨ sameF x y = false := by cases sameF x y <;> simp
      rcases hbb with hb | hb
      · have HE2 : Hid (∀ q x y, q < j + 1 → l[q]? = some x → l'[q]? = some y → x = y) := Lib.hid (fun q x' y' hq hx' hy' => by
          by_cases hqi : q = j
          · subst hqi
            rw [hx] at hx'
            rw [hy] at hy'
            cases hx'
            cases hy'
            exact (sameF_eq x y).1 hb
          · exact HE.out q x' y' (by omega) hx' hy')
        rw [hb] at HC
        clear hx hy hn hn' hua hub hv8 hb HE
        go_wp2_with fail
        refine HC.out.mono ?_
        rintro e w5 ⟨rfl, hu5⟩
        have HU5 := Lib.hid (HU2.out.trans_ext hu5)
        clear hu5
        go_wp2_with fail
        go_roundw
        case rel => exact ⟨j + 1, by omega, by go_num, HE2, HU5⟩
        case measure => simp [intOf]; omega
      · have HF : Hid (R = false) := Lib.hid (by
          rw [← hR.out, Bool.eq_false_iff]
          intro h
          rw [samesF_eq] at h
          rw [h, hy] at hx
          have := Option.some.inj hx
          subst this
          rw [(sameF_eq y y).2 rfl] at hb
          cases hb)
        rw [hb] at HC
        clear hx hy hn hn' hua hub hv8 hb HE
        go_wp2_with fail
        refine HC.out.mono ?_
        rintro e w5 ⟨rfl, hu5⟩
        have HU5 := Lib.hid (HU2.out.trans_ext hu5)
        clear hu5
        go_wp2_with fail
        go_ret
        rw [HF.out]
        exact ⟨rfl, HU5.out⟩
    · obtain rfl : j = ll := by omega
      have hgeI : (j : Int) ≥ j := by omega
      have HF : Hid (R = true) := Lib.hid (by
        rw [← hR.out, samesF_eq]
        apply List.ext_getElem?
        intro i
        by_cases hi : i < j
        · obtain ⟨x, hx⟩ : ∃ x, l[i]? = some x := ⟨_, List.getElem?_eq_getElem (by have := HLL.out.1; omega)⟩
          obtain ⟨y, hy⟩ : ∃ y, l'[i]? = some y := ⟨_, List.getElem?_eq_getElem (by have := HLL.out.2; omega)⟩
          rw [hx, hy, HE.out i x y hi hx hy]
        · rw [List.getElem?_eq_none (by have := HLL.out.1; omega), List.getElem?_eq_none (by have := HLL.out.2; omega)])
      clear HE
      go_wp2
      go_ret
      rw [HF.out]
      exact ⟨rfl, HU.out⟩
set_option maxRecDepth 100000 in
set_option maxHeartbeats 12800000 in
theorem equal_calls : ∀ (k : Nat) (x : Nd), sizeF x ≤ k → k ≤ 10000000 → bigN x → ∀ (y : Nd), sizeF y ≤ 10000000 → bigN y → ∀ (P P' : Nat → Prop) (v v' : Value) (w : World), NdV w P x v → NdV w P' y v' → Calls Tryz.prog 28 #[v, v'] w fun e w' => e = .returned (.bool (sameF x y)) ∧ Upto [] w w'
  | 0, x, hk, _, _ => by have := sizeF_pos x; omega
  | k + 1, .mk op xs so n m ls, hk, hk7, hbg => by
    intro y hy hbg' P P' v v' w h h'
    obtain ⟨op', xs', so', n', m', ls'⟩ := y
    obtain ⟨a1, c1, a2, c2, rfl, hs, hls⟩ := h.open
    obtain ⟨b1, d1, b2, d2, rfl, hs', hls'⟩ := h'.open
    unfold bigN at hbg hbg'
    have hsz : sizesF ls ≤ k := by simp only [sizeF] at hk; omega
    have hln := sizes_len ls
    have hsz' : sizesF ls' ≤ 10000000 := by simp only [sizeF] at hy; omega
    have hln' := sizes_len ls'
    have hu2 : Upto [] w ((w.alloc (.cells #[.int .i64 op, .slice a1 xs.length c1, .int .i64 so, .int .i64 n, .int .i64 m, .slice a2 ls.length c2] 34)).alloc (.cells #[.int .i64 op', .slice b1 xs'.length d1, .int .i64 so', .int .i64 n', .int .i64 m', .slice b2 ls'.length d2] 34)) := ((Upto.refl [] w).alloc _).alloc _
    have HN := Lib.hid (names_calls xs xs' _ _ P P' _ hbg.1 hbg'.1 (hs.ext hu2) (hs'.ext hu2))
    have HF := Lib.hid (fun w1 (hu : Upto [] w w1) => eqf_calls ls ls' a2 b2 c2 d2 P P' w1 (by omega) (by omega) (hls.ext hu) (hls'.ext hu) (fun x hx y hy u u' w2 hn hn' => equal_calls k x (by have := sizesF_mem hx; omega) (by omega) (bigs_mem hbg.2 hx) y (by have := sizesF_mem hy; omega) (bigs_mem hbg'.2 hy) P P' u u' w2 hn hn'))
    have HU2 := Lib.hid hu2
    have hb1 := alloc_old (new_at w (.cells #[.int .i64 op, .slice a1 xs.length c1, .int .i64 so, .int .i64 n, .int .i64 m, .slice a2 ls.length c2] 34)) (.cells #[.int .i64 op', .slice b1 xs'.length d1, .int .i64 so', .int .i64 n', .int .i64 m', .slice b2 ls'.length d2] 34)
    have hb2 := new_at1 w (.cells #[.int .i64 op, .slice a1 xs.length c1, .int .i64 so, .int .i64 n, .int .i64 m, .slice a2 ls.length c2] 34) (.cells #[.int .i64 op', .slice b1 xs'.length d1, .int .i64 so', .int .i64 n', .int .i64 m', .slice b2 ls'.length d2] 34)
    have HB1 := Lib.hid hb1
    have HB2 := Lib.hid hb2
    obtain ⟨x0, x1, x2, x3, x4, x5⟩ := cells6 hb1
    obtain ⟨y0, y1, y2, y3, y4, y5⟩ := frees6 hb1
    obtain ⟨z0, z1, z2, z3, z4, z5⟩ := cells6 hb2
    obtain ⟨t0, t1, t2, t3, t4, t5⟩ := frees6 hb2
    clear hs hls hs' hls' hu2 h h' hb1 hb2 hbg hbg' hk hy hsz hsz' hln hln'
    by_cases e0 : ¬ (op = op')
    · have HF : Hid (sameF (.mk op xs so n m ls) (.mk op' xs' so' n' m' ls') = false) := Lib.hid (by unfold sameF; simp [e0])
      have q1 : (op == op') = false := by rw [beq_eq_false_iff_ne]; exact e0
      have q2 : (op != op') = true := by rw [bne, q1]; rfl
      clear e0
      go_enter Tryz.func28, Tryz.ntmps28
      go_wp2_with fail
      go_ret
      rw [HF.out]
      exact ⟨rfl, HU2.out⟩
    have e0 := Decidable.not_not.1 e0
    subst e0
    have p0 : (op == op) = true := by simp
    by_cases e1 : ¬ (so = so')
    · have HF : Hid (sameF (.mk op xs so n m ls) (.mk op xs' so' n' m' ls') = false) := Lib.hid (by unfold sameF; simp [e1])
      have q1 : (so == so') = false := by rw [beq_eq_false_iff_ne]; exact e1
      have q2 : (so != so') = true := by rw [bne, q1]; rfl
      clear e1
      go_enter Tryz.func28, Tryz.ntmps28
      go_wp2_with fail
      go_ret
      rw [HF.out]
      exact ⟨rfl, HU2.out⟩
    have e1 := Decidable.not_not.1 e1
    subst e1
    have p1 : (so == so) = true := by simp
    by_cases e2 : ¬ (n = n')
    · have HF : Hid (sameF (.mk op xs so n m ls) (.mk op xs' so n' m' ls') = false) := Lib.hid (by unfold sameF; simp [e2])
      have q1 : (n == n') = false := by rw [beq_eq_false_iff_ne]; exact e2
      have q2 : (n != n') = true := by rw [bne, q1]; rfl
      clear e2
      go_enter Tryz.func28, Tryz.ntmps28
      go_wp2_with fail
      go_ret
      rw [HF.out]
      exact ⟨rfl, HU2.out⟩
    have e2 := Decidable.not_not.1 e2
    subst e2
    have p2 : (n == n) = true := by simp
    by_cases e3 : ¬ (m = m')
    · have HF : Hid (sameF (.mk op xs so n m ls) (.mk op xs' so n m' ls') = false) := Lib.hid (by unfold sameF; simp [e3])
      have q1 : (m == m') = false := by rw [beq_eq_false_iff_ne]; exact e3
      have q2 : (m != m') = true := by rw [bne, q1]; rfl
      clear e3
      go_enter Tryz.func28, Tryz.ntmps28
      go_wp2_with fail
      go_ret
      rw [HF.out]
      exact ⟨rfl, HU2.out⟩
    have e3 := Decidable.not_not.1 e3
    subst e3
    have p3 : (m == m) = true := by simp
    by_cases e4 : ¬ (xs = xs')
    · have HR : Hid (sameF (.mk op xs so n m ls) (.mk op xs' so n m ls') = false) := Lib.hid (by unfold sameF; simp [e4])
      have hd : decide (xs = xs') = false := by simpa using e4
      rw [hd] at HN
      clear e4 hd
      go_enter Tryz.func28, Tryz.ntmps28
      go_wp2_with fail
      refine HN.out.mono ?_
      rintro e w2 ⟨rfl, hu2⟩
      have HU3 := Lib.hid (HU2.out.trans_ext hu2)
      clear hu2
      go_wp2_with fail
      go_ret
      rw [HR.out]
      exact ⟨rfl, HU3.out⟩
    have e4 := Decidable.not_not.1 e4
    subst e4
    have hd : decide (xs = xs) = true := by simp
    have HR : Hid (sameF (.mk op xs so n m ls) (.mk op xs so n m ls') = samesF ls ls') := Lib.hid (by unfold sameF; simp)
    rw [hd] at HN
    clear hd
    rw [HR.out]
    generalize samesF ls ls' = R at *
    go_enter Tryz.func28, Tryz.ntmps28
    go_wp2_with fail
    refine HN.out.mono ?_
    rintro e w2 ⟨rfl, hu2⟩
    have hb1 := hu2.at HB1.out (by simp)
    have hb2 := hu2.at HB2.out (by simp)
    obtain ⟨u0, u1, u2, u3, u4, u5⟩ := cells6 hb1
    obtain ⟨uf0, uf1, uf2, uf3, uf4, uf5⟩ := frees6 hb1
    obtain ⟨r0, r1, r2, r3, r4, r5⟩ := cells6 hb2
    obtain ⟨rf0, rf1, rf2, rf3, rf4, rf5⟩ := frees6 hb2
    have HC := Lib.hid (HF.out w2 (HU2.out.trans_ext hu2))
    have HU3 := Lib.hid (HU2.out.trans_ext hu2)
    clear hu2 hb1 hb2
    go_wp2_with fail
    refine HC.out.mono ?_
    rintro e w3 ⟨rfl, hu3⟩
    have HU4 := Lib.hid (HU3.out.trans_ext hu3)
    clear hu3
    go_wp2_with fail
    go_ret
    exact ⟨rfl, HU4.out⟩
def alikeF (q q' : Qn) : Bool := decide (q.free = q'.free) && sameF q.body q'.body
theorem alikeF_eq (q q' : Qn) : alikeF q q' = true ↔ q = q' := by
  unfold alikeF
  rw [Bool.and_eq_true, decide_eq_true_eq, sameF_eq]
  cases q; cases q'
  simp
set_option maxRecDepth 100000 in
set_option maxHeartbeats 6400000 in
theorem equalq_calls (q q' : Qn) (P P' : Nat → Prop) (v v' : Value) (w : World) (hf : q.free.length ≤ 10000000) (hs : sizeF q.body ≤ 10000000) (hb : bigN q.body) (hf' : q'.free.length ≤ 10000000) (hs' : sizeF q'.body ≤ 10000000) (hb' : bigN q'.body) (h : QnV w P q v) (h' : QnV w P' q' v') :
    Calls Tryz.prog 26 #[v, v'] w fun e w' => e = .returned (.bool (alikeF q q')) ∧ Upto [] w w' := by
  obtain ⟨f1, f3, o1, a1, a2, a3, s1, n1, m1, l1, l2, l3, rfl, hv, hn⟩ := h.open
  obtain ⟨g1, g3, o2, b1, b2, b3, s2, n2, m2, k1, k2, k3, rfl, hv', hn'⟩ := h'.open
  have hu2 : Upto [] w ((w.alloc (.cells #[.slice f1 q.free.length f3, .int .i64 o1, .slice a1 a2 a3, .int .i64 s1, .int .i64 n1, .int .i64 m1, .slice l1 l2 l3] 48)).alloc (.cells #[.slice g1 q'.free.length g3, .int .i64 o2, .slice b1 b2 b3, .int .i64 s2, .int .i64 n2, .int .i64 m2, .slice k1 k2 k3] 48)) := ((Upto.refl [] w).alloc _).alloc _
  have HN := Lib.hid (vars_calls q.free q'.free _ _ P P' _ hf hf' (SlP.ext hv hu2) (SlP.ext hv' hu2))
  have HF := Lib.hid (fun w1 (hu : Upto [] w w1) => equal_calls _ q.body (Nat.le_refl _) hs hb q'.body hs' hb' P P' _ _ w1 (hn.ext hu) (hn'.ext hu))
  have HU2 := Lib.hid hu2
  have hb1 := alloc_old (new_at w (.cells #[.slice f1 q.free.length f3, .int .i64 o1, .slice a1 a2 a3, .int .i64 s1, .int .i64 n1, .int .i64 m1, .slice l1 l2 l3] 48)) (.cells #[.slice g1 q'.free.length g3, .int .i64 o2, .slice b1 b2 b3, .int .i64 s2, .int .i64 n2, .int .i64 m2, .slice k1 k2 k3] 48)
  have hb2 := new_at1 w (.cells #[.slice f1 q.free.length f3, .int .i64 o1, .slice a1 a2 a3, .int .i64 s1, .int .i64 n1, .int .i64 m1, .slice l1 l2 l3] 48) (.cells #[.slice g1 q'.free.length g3, .int .i64 o2, .slice b1 b2 b3, .int .i64 s2, .int .i64 n2, .int .i64 m2, .slice k1 k2 k3] 48)
  have HB1 := Lib.hid hb1
  have HB2 := Lib.hid hb2
  obtain ⟨xa0, xa1, xa2, xa3, xa4, xa5, xa6⟩ := cells7 hb1
  obtain ⟨ya0, ya1, ya2, ya3, ya4, ya5, ya6⟩ := frees7 hb1
  obtain ⟨xb0, xb1, xb2, xb3, xb4, xb5, xb6⟩ := cells7 hb2
  obtain ⟨yb0, yb1, yb2, yb3, yb4, yb5, yb6⟩ := frees7 hb2
  clear hv hn hv' hn' hu2 h h' hb1 hb2 hb hf hs hb' hf' hs'
  by_cases e4 : ¬ (q.free = q'.free)
  · have HR : Hid (alikeF q q' = false) := Lib.hid (by unfold alikeF; simp [e4])
    have hd : decide (q.free = q'.free) = false := by simpa using e4
    rw [hd] at HN
    rw [HR.out]
    clear e4 hd
    go_enter Tryz.func26, Tryz.ntmps26
    go_wp2_with fail
    refine HN.out.mono ?_
    rintro e w2 ⟨rfl, hu2⟩
    have HU3 := Lib.hid (HU2.out.trans_ext hu2)
    clear hu2
    go_wp2_with fail
    go_ret
    exact ⟨rfl, HU3.out⟩
  have e4 := Decidable.not_not.1 e4
  have hd : decide (q.free = q'.free) = true := by simpa using e4
  have HR : Hid (alikeF q q' = sameF q.body q'.body) := Lib.hid (by unfold alikeF; rw [hd]; rfl)
  rw [hd] at HN
  rw [HR.out]
  clear hd HR e4
  generalize sameF q.body q'.body = R at *
  go_enter Tryz.func26, Tryz.ntmps26
  go_wp2_with fail
  refine HN.out.mono ?_
  rintro e w2 ⟨rfl, hu2⟩
  have hb1 := hu2.at HB1.out (by simp)
  have hb2 := hu2.at HB2.out (by simp)
  obtain ⟨pa0, pa1, pa2, pa3, pa4, pa5, pa6⟩ := cells7 hb1
  obtain ⟨qa0, qa1, qa2, qa3, qa4, qa5, qa6⟩ := frees7 hb1
  obtain ⟨pb0, pb1, pb2, pb3, pb4, pb5, pb6⟩ := cells7 hb2
  obtain ⟨qb0, qb1, qb2, qb3, qb4, qb5, qb6⟩ := frees7 hb2
  have HC := Lib.hid (HF.out w2 (HU2.out.trans_ext hu2))
  have HU3 := Lib.hid (HU2.out.trans_ext hu2)
  clear hu2 hb1 hb2
  go_wp2_with fail
  refine HC.out.mono ?_
  rintro e w3 ⟨rfl, hu3⟩
  have HU4 := Lib.hid (HU3.out.trans_ext hu3)
  clear hu3
  go_wp2_with fail
  go_ret
  exact ⟨rfl, HU4.out⟩
theorem vars_get {w : World} {P : Nat → Prop} {v : Value} {f : List (List UInt8 × Int)} (h : VarsV w P v f) : ∃ a c, v = .slice a f.length c ∧ ∀ i x, f[i]? = some x → ∃ g o, a = some ⟨g, o, none⟩ ∧ w.cell? ⟨g, o + i * 2, none⟩ = some (.string ⟨x.1.toArray⟩) ∧ w.cell? ⟨g, o + i * 2 + 1, none⟩ = some (.int .i64 x.2) := by
  obtain ⟨a, c, rfl, hg⟩ := SlP.get h
  refine ⟨a, c, rfl, fun i x hi => ?_⟩
  obtain ⟨g, o, rfl, h1⟩ := hg _ _ (vars_at hi).1
  obtain ⟨g2, o2, e, h2⟩ := hg _ _ (vars_at hi).2
  simp at e
  obtain ⟨rfl, rfl⟩ := e
  exact ⟨g, o, rfl, h1, h2⟩
theorem vars_slice {w : World} {P : Nat → Prop} {a : Option Addr} {n c : Nat} {f : List (List UInt8 × Int)} (h : VarsV w P (.slice a n c) f) : ∀ i x, f[i]? = some x → ∃ g o, a = some ⟨g, o, none⟩ ∧ w.cell? ⟨g, o + i * 2, none⟩ = some (.string ⟨x.1.toArray⟩) ∧ w.cell? ⟨g, o + i * 2 + 1, none⟩ = some (.int .i64 x.2) := by
  obtain ⟨a', c', e, hg⟩ := vars_get h
  cases e
  exact hg
set_option maxRecDepth 100000 in
set_option maxHeartbeats 6400000 in
theorem alike_calls (q q' : Qn) (P P' : Nat → Prop) (v v' : Value) (w : World) (hf : q.free.length ≤ 10000000) (hb : hugeN q.body) (_hf' : q'.free.length ≤ 10000000) (h : QnV w P q v) (h' : QnV w P' q' v') :
    Calls Tryz.prog 27 #[v, v'] w fun e w' => e = .returned (.bool (alikeF q q')) ∧ Upto [] w w' := by
  obtain ⟨f1, f3, o1, a1, a2, a3, s1, n1, m1, l1, l2, l3, rfl, hv, hn⟩ := h.open
  obtain ⟨g1, g3, o2, b1, b2, b3, s2, n2, m2, k1, k2, k3, rfl, hv', hn'⟩ := h'.open
  have hu2 : Upto [] w ((w.alloc (.cells #[.slice f1 q.free.length f3, .int .i64 o1, .slice a1 a2 a3, .int .i64 s1, .int .i64 n1, .int .i64 m1, .slice l1 l2 l3] 45)).alloc (.cells #[.slice g1 q'.free.length g3, .int .i64 o2, .slice b1 b2 b3, .int .i64 s2, .int .i64 n2, .int .i64 m2, .slice k1 k2 k3] 45)) := ((Upto.refl [] w).alloc _).alloc _
  have HU2 := Lib.hid hu2
  have hb1 := alloc_old (new_at w (.cells #[.slice f1 q.free.length f3, .int .i64 o1, .slice a1 a2 a3, .int .i64 s1, .int .i64 n1, .int .i64 m1, .slice l1 l2 l3] 45)) (.cells #[.slice g1 q'.free.length g3, .int .i64 o2, .slice b1 b2 b3, .int .i64 s2, .int .i64 n2, .int .i64 m2, .slice k1 k2 k3] 45)
  have hb2 := new_at1 w (.cells #[.slice f1 q.free.length f3, .int .i64 o1, .slice a1 a2 a3, .int .i64 s1, .int .i64 n1, .int .i64 m1, .slice l1 l2 l3] 45) (.cells #[.slice g1 q'.free.length g3, .int .i64 o2, .slice b1 b2 b3, .int .i64 s2, .int .i64 n2, .int .i64 m2, .slice k1 k2 k3] 45)
  have HB1 := Lib.hid hb1
  have HB2 := Lib.hid hb2
  have HG := Lib.hid (vars_slice hv)
  have HG' := Lib.hid (vars_slice hv')
  have HSM := Lib.hid (fun u (hu : Upto [] w u) => same_calls _ q.body (Nat.le_refl _) hb q'.body P P' _ _ u (hn.ext hu) (hn'.ext hu))
  obtain ⟨xa0, xa1, xa2, xa3, xa4, xa5, xa6⟩ := cells7 hb1
  obtain ⟨xb0, xb1, xb2, xb3, xb4, xb5, xb6⟩ := cells7 hb2
  clear h h' hv hv' hn hn' hb hu2 hb1 hb2
  by_cases hne : q.free.length ≠ q'.free.length
  · have HF : Hid (alikeF q q' = false) := Lib.hid (by unfold alikeF; rw [decide_eq_false (fun e => hne (by rw [e]))]; rfl)
    rw [HF.out]
    generalize hA : q.free.length = A at *
    generalize hB : q'.free.length = B at *
    have q1 : ((A : Int) == (B : Int)) = false := by rw [beq_eq_false_iff_ne]; omega
    have q2 : ((A : Int) != (B : Int)) = true := by rw [bne, q1]; rfl
    clear hne HF hA hB
    go_enter Tryz.func27, Tryz.ntmps27
    go_wp2_with fail
    go_ret
    exact ⟨rfl, HU2.out⟩
  have hne := Decidable.not_not.1 hne
  have HNE := Lib.hid hne
  have q2 : ((q.free.length : Int) != (q'.free.length : Int)) = false := by rw [hne]; simp
  have hL0 : (0 : Int) ≤ q.free.length := by omega
  have hL1 : (q.free.length : Int) ≤ 10000000 := by omega
  clear hne hf _hf'
  go_enter Tryz.func27, Tryz.ntmps27
  go_wp2_with fail
  generalize hW2 : ((w.alloc (.cells #[.slice f1 q.free.length f3, .int .i64 o1, .slice a1 a2 a3, .int .i64 s1, .int .i64 n1, .int .i64 m1, .slice l1 l2 l3] 45)).alloc (.cells #[.slice g1 q'.free.length g3, .int .i64 o2, .slice b1 b2 b3, .int .i64 s2, .int .i64 n2, .int .i64 m2, .slice k1 k2 k3] 45)) = W2 at *
  clear hW2
  go_loopw [5] (fun i wr => ∃ j : Nat, j ≤ q.free.length ∧ i = .int .i64 j ∧ Hid (∀ p, p < j → q.free[p]? = q'.free[p]?) ∧ Hid (Upto [] W2 wr)) (fun i _ => q.free.length - (intOf i).toNat)
  case atStart => exact ⟨0, by omega, rfl, Lib.hid (fun p hp => by omega), Lib.hid (Upto.refl _ _)⟩
  case round =>
    obtain ⟨j, hj, rfl, HE, HU⟩ := hrel
    have hj0 : (0 : Int) ≤ j := by omega
    have h1 := HU.out.at HB1.out (by simp)
    have h2 := HU.out.at HB2.out (by simp)
    have hd := (Upto.refl [] wr).drew
    have h3 := hd.at h1 (by simp)
    have h4 := hd.at h2 (by simp)
    obtain ⟨pa0, pa1, pa2, pa3, pa4, pa5, pa6⟩ := cells7 h1
    obtain ⟨pb0, pb1, pb2, pb3, pb4, pb5, pb6⟩ := cells7 h2
    have s0 := cell_of h3 0
    have t0 := cell_of h4 0
    simp only [List.getElem?_toArray, List.getElem?_cons_zero] at s0 t0
    have HW := Lib.hid (HU2.out.trans_ext HU.out)
    rcases Nat.lt_or_ge j q.free.length with hlt | hge
    · have hltI : (j : Int) < q.free.length := by omega
      have hltJ : (j : Int) < q'.free.length := by have := HNE.out; omega
      obtain ⟨x, hx⟩ : ∃ x, q.free[j]? = some x := ⟨_, List.getElem?_eq_getElem hlt⟩
      obtain ⟨y, hy⟩ : ∃ y, q'.free[j]? = some y := ⟨_, List.getElem?_eq_getElem (by have := HNE.out; omega)⟩
      obtain ⟨g, o, rfl, c0, c1⟩ := HG.out j x hx
      obtain ⟨g', o', rfl, c2, c3⟩ := HG'.out j y hy
      replace c0 := up_cell HW.out c0
      replace c1 := up_cell HW.out c1
      replace c2 := up_cell HW.out c2
      replace c3 := up_cell HW.out c3
      have d0 := (hd.cell (p := ⟨g, o + j * 2, none⟩) (World.block_lt_of_cell? wr _ c0) (by simp)).trans c0
      have d1 := (hd.cell (p := ⟨g, o + j * 2 + 1, none⟩) (World.block_lt_of_cell? wr _ c1) (by simp)).trans c1
      have d2 := (hd.cell (p := ⟨g', o' + j * 2, none⟩) (World.block_lt_of_cell? wr _ c2) (by simp)).trans c2
      have d3 := (hd.cell (p := ⟨g', o' + j * 2 + 1, none⟩) (World.block_lt_of_cell? wr _ c3) (by simp)).trans c3
      have HD := Lib.hid (HU.out.trans_ext hd)
      have HDW := Lib.hid (HW.out.trans_ext hd)
      obtain ⟨x1, x2⟩ := x
      obtain ⟨y1, y2⟩ := y
      simp only at c0 c1 c2 c3 d0 d1 d2 d3
      have HNF : (¬ (x1 = y1 ∧ x2 = y2)) → alikeF q q' = false := fun hn => by
        unfold alikeF
        rw [decide_eq_false]
        · rfl
        · intro e
          rw [e, hy] at hx
          have := Option.some.inj hx
          simp at this
          exact hn ⟨this.1.symm, this.2.symm⟩
      by_cases hxy : x1 = y1
      · by_cases hxy2 : x2 = y2
        · subst hxy hxy2
          have HE2 : Hid (∀ p, p < j + 1 → q.free[p]? = q'.free[p]?) := Lib.hid (fun p hp => by
            by_cases hqj : p = j
            · subst hqj; rw [hx, hy]
            · exact HE.out p (by omega))
          clear hx hy hd HE h1 h2 h3 h4 HNF
          go_wp2_with fail
          go_region
          all_goals (
            go_wp2_with fail
            go_roundw
            case rel => exact ⟨j + 1, by omega, by go_num, HE2, HD⟩
            case measure => simp [intOf]; omega)
        · have HF := Lib.hid (HNF (fun e => hxy2 e.2))
          subst hxy
          have q1 : (x2 == y2) = false := by rw [beq_eq_false_iff_ne]; exact hxy2
          have q3 : (x2 != y2) = true := by rw [bne, q1]; rfl
          clear hx hy hd HE h1 h2 h3 h4 HNF
          go_wp2_with fail
          go_region
          all_goals (
            go_wp2_with fail
            go_ret
            rw [HF.out]
            exact ⟨rfl, HDW.out⟩)
      · have HF := Lib.hid (HNF (fun e => hxy e.1))
        have q1 : (x1 == y1) = false := by simpa using hxy
        have q3 : (x1 != y1) = true := by rw [bne, q1]; rfl
        clear hx hy hd HE h1 h2 h3 h4 HNF
        go_wp2_with fail
        go_region
        all_goals (
          go_wp2_with fail
          go_ret
          rw [HF.out]
          exact ⟨rfl, HDW.out⟩)
    · have hgeI : ¬ (j : Int) < q.free.length := by omega
      have HF : Hid (alikeF q q' = sameF q.body q'.body) := Lib.hid (by
        unfold alikeF
        rw [decide_eq_true]
        · rfl
        · apply List.ext_getElem?
          intro i
          by_cases hi : i < j
          · exact HE.out i hi
          · rw [List.getElem?_eq_none (by omega), List.getElem?_eq_none (by have := HNE.out; omega)])
      have HC := Lib.hid (HSM.out wr HW.out)
      clear hd h1 h2 h3 h4 s0 t0
      go_wp2_with fail
      refine HC.out.mono ?_
      rintro e w5 ⟨rfl, hu5⟩
      have HU5 := Lib.hid (HW.out.trans_ext hu5)
      clear hu5
      go_wp2_with fail
      go_ret
      rw [HF.out]
      exact ⟨rfl, HU5.out⟩
structure OfRow (w0 w : World) (B : Nat) (c : Nat → Nat → Value) (v : Value) (ms : List Nd) : Prop where
  row : w.ownsRow 0 34 6 v ms.length (cellsN c ms.length)
  nd : ∀ i m, ms[i]? = some m → NdV w (Lr w0 B v) m (.agg #[c i 0, c i 1, c i 2, c i 3, c i 4, c i 5])
  own : ∀ g, v.ownBlock = some g → w0.heap.size ≤ g ∧ g ≠ B
theorem OfRow.upto {w0 w w' : World} {S : List Nat} {B : Nat} {c : Nat → Nat → Value} {v : Value} {ms : List Nd} (h : OfRow w0 w B c v ms) (hu : Upto S w w') (hS : ∀ k ∈ S, k < w0.heap.size ∨ k = B) : OfRow w0 w' B c v ms :=
  ⟨ownsRow_upto h.row hu (fun g hg hm => by have h1 := h.own g hg; rcases hS g hm with h2 | h2 <;> omega),
   fun i m hi => (h.nd i m hi).upto hu (fun b hb _ hm => by have h1 := hb.1; unfold New at h1; rcases hS b hm with h2 | h2; omega; exact hb.2.1 h2), h.own⟩
theorem OfRow.app {w0 w w5 : World} {B : Nat} {c : Nat → Nat → Value} {v : Value} {ms : List Nd} {m : Nd} {v0 v1 v2 v3 v4 v5 : Value} {b' : Option Addr} {c' : Nat} (h : OfRow w0 w B c v ms) (hsz : w0.heap.size ≤ w.heap.size) (hBw : B < w.heap.size)
    (hm : NdV w (Lr w0 B v) m (.agg #[v0, v1, v2, v3, v4, v5])) (ho : w5.ownsRow 0 34 6 (.slice b' (ms.length + 1) c') (ms.length + 1) (cellsN c ms.length ++ [v0, v1, v2, v3, v4, v5])) (hu : Upto v.ownBlock.toList w w5)
    (hw : ∀ g, (Value.slice b' (ms.length + 1) c').ownBlock = some g → v.ownBlock = some g ∨ w.heap.size ≤ g) : OfRow w0 w5 B (addC c ms.length v0 v1 v2 v3 v4 v5) (.slice b' (ms.length + 1) c') (ms ++ [m]) := by
  have key : ∀ x u, NdV w (Lr w0 B v) x u → NdV w5 (Lr w0 B (.slice b' (ms.length + 1) c')) x u := fun x u hx =>
    NdV.keep ⟨hu.size, fun b hb hl => ⟨⟨hb.1, hb.2.1, fun e => by
      rcases hw b e with h1 | h1
      · exact hb.2.2 h1
      · have := hl.lt; omega⟩, hu.block b hl.lt (fun hmm => hb.2.2 (Option.mem_toList.1 hmm))⟩⟩ x u hx
  refine ⟨?_, ?_, ?_⟩
  · rw [List.length_append, List.length_singleton, cellsN_add]
    exact ho
  · intro i x hi
    by_cases hlt : i < ms.length
    · rw [List.getElem?_append_left hlt] at hi
      have := key _ _ (h.nd i x hi)
      simpa [addC, Nat.ne_of_lt hlt] using this
    · rw [List.getElem?_append_right (by omega)] at hi
      cases hd : i - ms.length with
      | zero =>
        rw [hd] at hi
        simp at hi
        subst hi
        have : i = ms.length := by omega
        subst this
        simpa [addC] using key _ _ hm
      | succ z => rw [hd] at hi; simp at hi
  · intro g hg
    rcases hw g hg with h1 | h1
    · exact h.own g h1
    · exact ⟨by omega, by omega⟩
theorem OfRow.list {w0 w : World} {B : Nat} {c : Nat → Nat → Value} {v : Value} {ms : List Nd} {Q : Nat → Prop} (h : OfRow w0 w B c v ms) (h1 : ∀ b, Lr w0 B v b → Q b) (h2 : ∀ g, v.ownBlock = some g → Q g) : (ms = [] ∧ ∃ a c, v = .slice a 0 c) ∨ ∃ g o c, v = .slice (some ⟨g, o, none⟩) ms.length c ∧ (Q g ∧ IsC w g) ∧ NdsV w Q g o ms := by
  rcases h.row.2 with ⟨e, h0⟩ | ⟨g, cap, cur, e, _, hh, _, _, _, ht⟩
  · exact Or.inl ⟨List.eq_nil_of_length_eq_zero h0, none, 0, e⟩
  · refine Or.inr ⟨g, 0, cap, e, ⟨h2 g (by rw [e]; rfl), _, _, _, hh⟩, nds_of ms 0 fun i x hi => ?_⟩
    have hil : i < ms.length := (List.getElem?_eq_some_iff.1 hi).1
    have cl : ∀ j, j < 6 → w.cell? ⟨g, 0 + i * 6 + j, none⟩ = some (c i j) := fun j hj => by
      rw [cell_of hh]
      have := cellsN_at c hil hj
      rw [← ht, List.getElem?_take] at this
      split at this
      · simpa using this
      · cases this
    exact ⟨_, _, _, _, _, _, cl 0 (by omega), cl 1 (by omega), cl 2 (by omega), cl 3 (by omega), cl 4 (by omega), cl 5 (by omega), (h.nd i x hi).mono fun b hb _ => h1 b hb⟩
theorem infoO4 : (Tryz.prog.info? 34).map (fun i => (i.zero, i.size, i.bytes)) = some (some (.agg #[.int .i64 0, .slice none 0 0, .int .i64 0, .int .i64 0, .int .i64 0, .slice none 0 0]), 6, 80) := by kernel_rfl
theorem infoO4' : ∃ i, Tryz.prog.info? 34 = some i ∧ i.zero = some (.agg #[.int .i64 0, .slice none 0 0, .int .i64 0, .int .i64 0, .int .i64 0, .slice none 0 0]) ∧ i.size = 6 ∧ i.bytes = 80 := by
  have h := infoO4
  cases hi : Tryz.prog.info? 34 with
  | none => rw [hi] at h; cases h
  | some i =>
    rw [hi] at h
    simp only [Option.map_some, Option.some.injEq, Prod.mk.injEq] at h
    exact ⟨i, rfl, h.1, h.2.1, h.2.2⟩
structure OfI (w w9 : World) (bn : Nat) (op so nn mm : Int) (na : Option Addr) (nl nc : Nat) (ns : List Value) (l : List Nd) (j : Nat) (wr : World) : Prop where
  up : Upto [bn] w9 wr
  old : Upto [] w wr
  st : ∃ (va : Option Addr) (vn vc : Nat) (c : Nat → Nat → Value), wr.heap[bn]? = some (.cells #[.int .i64 op, .slice na nl nc, .int .i64 so, .int .i64 nn, .int .i64 mm, .slice va vn vc] 34 (0, 0)) ∧ OfRow w9 wr bn c (.slice va vn vc) (l.take j)
theorem of_step {w w9 wr w10 w5 W : World} {bn : Nat} {op so nn mm : Int} {na : Option Addr} {nl nc : Nat} {ns : List Value} {l : List Nd} {vn : Nat} {va : Option Addr} {vc : Nat} {c : Nat → Nat → Value} {x : Nd} {v0 v1 v2 v3 v4 v5 : Value} {b5 : Option Addr} {c5 : Nat}
    (HI : OfI w w9 bn op so nn mm na nl nc ns l vn wr) (HLT : W.heap.size ≤ bn ∧ bn < w9.heap.size) (HWL : w.heap.size < W.heap.size) (HUP : Upto [] W w9)
    (hbk : wr.heap[bn]? = some (.cells #[.int .i64 op, .slice na nl nc, .int .i64 so, .int .i64 nn, .int .i64 mm, .slice va vn vc] 34 (0, 0))) (hrow : OfRow w9 wr bn c (.slice va vn vc) (l.take vn))
    (hu : Upto [] wr w10) (hn : NdV w10 (New wr) x (.agg #[v0, v1, v2, v3, v4, v5])) (hjl : (l.take vn).length = vn) (htk : l.take (vn + 1) = l.take vn ++ [x])
    (ho5 : w5.ownsRow 0 34 6 (.slice b5 (vn + 1) c5) (vn + 1) (cellsN c vn ++ [v0, v1, v2, v3, v4, v5])) (hu5 : Upto (Value.slice va vn vc).ownBlock.toList w10 w5) (hw5 : ∀ g, (Value.slice b5 (vn + 1) c5).ownBlock = some g → (Value.slice va vn vc).ownBlock = some g ∨ w10.heap.size ≤ g) :
    w5.heap[bn]? = some (.cells #[.int .i64 op, .slice na nl nc, .int .i64 so, .int .i64 nn, .int .i64 mm, .slice va vn vc] 34 (0, 0)) ∧ OfI w w9 bn op so nn mm na nl nc ns l (vn + 1) (w5.setCell ⟨bn, 5, none⟩ (.slice b5 (vn + 1) c5)) := by
  have hown : ∀ g, g ∈ (Value.slice va vn vc).ownBlock.toList → w9.heap.size ≤ g ∧ g ≠ bn := fun g hg => hrow.own g (Option.mem_toList.1 hg)
  have hold : ∀ g, (Value.slice va vn vc).ownBlock = some g → g < wr.heap.size := fun g hg => by
    obtain ⟨cur, hh⟩ := ownsRow_block hrow.row hg
    exact lt_of_heap hh
  have hb5 := hu5.at (hu.at hbk (by simp)) (fun hm => (hown _ hm).2 rfl)
  have hst : Upto [bn] w5 (w5.setCell ⟨bn, 5, none⟩ (.slice b5 (vn + 1) c5)) := (Upto.refl [bn] w5).setCell (p := ⟨bn, 5, none⟩) (Or.inl (by simp)) _
  have hs9 := HI.up.size
  have hs10 := hu.size
  have hW := HUP.size
  have hbw := lt_of_heap hbk
  refine ⟨hb5, ⟨?_, ?_, b5, vn + 1, c5, addC c vn v0 v1 v2 v3 v4 v5, ?_, ?_⟩⟩
  · exact ((HI.up.trans_ext hu).trans hu5 (fun k hk => Or.inr (hown k hk).1)).setCell (p := ⟨bn, 5, none⟩) (Or.inl (by simp)) _
  · exact ((HI.old.trans_ext hu).trans hu5 (fun k hk => Or.inr (by have := (hown k hk).1; omega))).setCell (p := ⟨bn, 5, none⟩) (Or.inr (by simp; omega)) _
  · have := set_same hb5 5 (.slice b5 (vn + 1) c5)
    simpa using this
  · have happ := OfRow.app (m := x) (v0 := v0) (v1 := v1) (v2 := v2) (v3 := v3) (v4 := v4) (v5 := v5) (b' := b5) (c' := c5) (w5 := w5) (hrow.upto hu (by simp)) (by omega) (by omega)
      (hn.mono (fun b hb _ => ⟨by unfold New at hb ⊢; omega, by unfold New at hb; omega, fun e => by have := hold b e; unfold New at hb; omega⟩)) (by rw [hjl]; exact ho5) hu5 (by rw [hjl]; exact hw5)
    rw [hjl] at happ
    rw [htk]
    exact happ.upto hst (fun k hk => Or.inr (by simpa using hk))
theorem of_end {w w9 wr W : World} {bn : Nat} {op so nn mm : Int} {na : Option Addr} {nc : Nat} {ns : List Value} {names : List (List UInt8)} {l : List Nd} {vn : Nat} {va : Option Addr} {vc : Nat} {c : Nat → Nat → Value} {_P : Nat → Prop}
    (HI : OfI w w9 bn op so nn mm na names.length nc ns l vn wr) (HLT : W.heap.size ≤ bn ∧ bn < w9.heap.size) (_HWL : w.heap.size < W.heap.size) (HW2 : w.heap.size + 1 < W.heap.size) (HUP : Upto [] W w9)
    (hbn : w9.heap[bn]? = some (.cells #[.int .i64 0, .slice none 0 0, .int .i64 0, .int .i64 0, .int .i64 0, .slice none 0 0] 34 (0, 0)))
    (hsl : SlP w9 (New W) (.slice na names.length nc) names.length (names.map sV))
    (_hz2 : wr.heap[w.heap.size + 1]? = some (.cells #[.int .i64 0, .slice none 0 0, .int .i64 0, .int .i64 0, .int .i64 0, .slice none 0 0] 34 (0, 0)))
    (hrow : OfRow w9 wr bn c (.slice va vn vc) (l.take vn)) (htk : l.take vn = l) (_hll : l.length = vn) :
    BkPost w (.mk op names so nn mm l) (.returned (.agg #[.int .i64 op, .slice na names.length nc, .int .i64 so, .int .i64 nn, .int .i64 mm, .slice va vn vc])) ((((((wr.setCell ⟨w.heap.size + 1, 0, none⟩ (.int .i64 op)).setCell ⟨w.heap.size + 1, 1, none⟩ (.slice na names.length nc)).setCell ⟨w.heap.size + 1, 2, none⟩ (.int .i64 so)).setCell ⟨w.heap.size + 1, 3, none⟩ (.int .i64 nn)).setCell ⟨w.heap.size + 1, 4, none⟩ (.int .i64 mm)).setCell ⟨w.heap.size + 1, 5, none⟩ (.slice va vn vc)) := by
  have hst := nd_self wr (w.heap.size + 1) (.int .i64 op) (.slice na names.length nc) (.int .i64 so) (.int .i64 nn) (.int .i64 mm) (.slice va vn vc)
  have hW := HUP.size
  have hrow2 := hrow.upto hst (fun k hk => Or.inl (by simp at hk; omega))
  rw [htk] at hrow2
  have hs2 := ((names_ne hsl rfl hbn).upto HI.up (fun b hb _ => by simpa using hb.2)).upto hst (fun b hb _ => by have := hb.1; unfold New at this; simp; omega)
  refine ⟨_, rfl, ?_, nd_up HI.old (Or.inr (by omega)) ..⟩
  unfold NdV
  refine ⟨_, _, rfl, hs2.mono (fun b hb _ => by have := hb.1; unfold New at this ⊢; omega), ?_⟩
  have := hrow2.list (Q := New w) (fun b hb => by have := hb.1; unfold New at this ⊢; omega) (fun g hg => by have := (hrow.own g hg).1; unfold New; omega)
  exact this
set_option maxRecDepth 100000 in
set_option maxHeartbeats 6400000 in
theorem of_calls : ∀ (k : Nat) (nd : Nd), sizeF nd ≤ k → k ≤ 10000000 → bigN nd → ∀ (P : Nat → Prop) (v : Value) (w : World), NdV w P nd v → Calls Tryz.prog 46 #[v] w (BkPost w nd)
  | 0, nd, hk, _, _, _, _, _, _ => by have := sizeF_pos nd; omega
  | k + 1, .mk op names so nn mm l, hk, hk7, hbg, P, v, w, h => by
    obtain ⟨a1, c1, a2, c2, rfl, hs, hls⟩ := h.open
    unfold bigN at hbg
    have hsz : sizesF l ≤ k := by simp only [sizeF] at hk; omega
    have hln := sizes_len l
    have hu2 : Upto [] w ((w.alloc (.cells #[.int .i64 op, .slice a1 names.length c1, .int .i64 so, .int .i64 nn, .int .i64 mm, .slice a2 l.length c2] 25)).alloc (.cells #[.int .i64 0, .slice none 0 0, .int .i64 0, .int .i64 0, .int .i64 0, .slice none 0 0] 34)) := ((Upto.refl [] w).alloc _).alloc _
    have hb1 := alloc_old (new_at w (.cells #[.int .i64 op, .slice a1 names.length c1, .int .i64 so, .int .i64 nn, .int .i64 mm, .slice a2 l.length c2] 25)) (.cells #[.int .i64 0, .slice none 0 0, .int .i64 0, .int .i64 0, .int .i64 0, .slice none 0 0] 34)
    have hb2 := new_at1 w (.cells #[.int .i64 op, .slice a1 names.length c1, .int .i64 so, .int .i64 nn, .int .i64 mm, .slice a2 l.length c2] 25) (.cells #[.int .i64 0, .slice none 0 0, .int .i64 0, .int .i64 0, .int .i64 0, .slice none 0 0] 34)
    obtain ⟨W, hW⟩ : ∃ W, W = ((w.alloc (.cells #[.int .i64 op, .slice a1 names.length c1, .int .i64 so, .int .i64 nn, .int .i64 mm, .slice a2 l.length c2] 25)).alloc (.cells #[.int .i64 0, .slice none 0 0, .int .i64 0, .int .i64 0, .int .i64 0, .slice none 0 0] 34)) := ⟨_, rfl⟩
    rw [← hW] at hu2 hb1 hb2
    have HU2 := Lib.hid hu2
    have HB1 := Lib.hid hb1
    have HB2 := Lib.hid hb2
    have hns : SlP W P (.slice a1 names.length c1) (names.map sV).length (names.map sV) := by rw [List.length_map]; exact hs.ext hu2
    have HNS := Lib.hid hns.slc
    have HNL := Lib.hid hbg.1
    obtain ⟨i0, hi0, hz0, hz1, hz2⟩ := info9'
    obtain ⟨x0, x1, x2, x3, x4, x5⟩ := cells6 hb1
    have hwl : w.heap.size < W.heap.size := lt_of_heap hb1
    have hwr := Upto.refl [] W
    clear hs h hu2 hb1 hb2 hns
    go_enter Tryz.func46, Tryz.ntmps46
    go_wp2_with fail
    simp only [← hW]
    clear hW
    have e0 : ∀ u : Ext W, u.w.cell? ⟨w.heap.size, 0, none⟩ = some _ := fun u => u.cell x0
    have e1 : ∀ u : Ext W, u.w.cell? ⟨w.heap.size, 1, none⟩ = some _ := fun u => u.cell x1
    have e2 : ∀ u : Ext W, u.w.cell? ⟨w.heap.size, 2, none⟩ = some _ := fun u => u.cell x2
    have e3 : ∀ u : Ext W, u.w.cell? ⟨w.heap.size, 3, none⟩ = some _ := fun u => u.cell x3
    have e4 : ∀ u : Ext W, u.w.cell? ⟨w.heap.size, 4, none⟩ = some _ := fun u => u.cell x4
    refine wp_region_seg_at [2, 5] [13] [0, 1, 2, 3, 4, 5, 6, 7, 8, 9, 10, 11, 12, 13] [14] 14 (by kernel_rfl) (by kernel_rfl) (by kernel_rfl) ?_
    iterate 2 (refine seg_plain rfl rfl rfl rfl rfl ?_; intro K' hK'; go_big_quiet_op; go_big_quiet_on)
    refine seg_opq (Y := Nat) (fun b => .slice (some ⟨b, 0, none⟩) 0 0) (fun _ _ => True) (fun _ => []) rfl rfl rfl rfl (fun _ _ _ h _ => h) (fun _ => List.nodup_nil) (fun w' post hu hd hp => (congrArg (opqUpon Tryz.prog post) (show _ = Result.ok (Next.value (.slice (some ⟨w'.heap.size, 0, none⟩) 0 0)) (w'.alloc (.cells #[] 9)) from by go_simp)).mpr (hp w'.heap.size _ ((Upto.refl [] w').alloc _) trivial (fun b hb => by cases hb))) ?_
    intro be
    simp only [Act.put, List.setIfInBounds_toArray, List.set_cons_zero, List.set_cons_succ]
    iterate 2 (refine seg_plain rfl rfl rfl rfl rfl ?_; intro K' hK'; go_big_quiet_op; go_big_quiet_on)
    refine seg_opq (Y := Option Addr × Nat) (fun y => .slice y.1 names.length y.2) (fun y u => SlP u (New W) (.slice y.1 names.length y.2) names.length (names.map sV)) (fun _ => []) rfl rfl rfl rfl (fun _ _ _ h hu => h.ext hu) (fun _ => List.nodup_nil) (fun w' post hu hd hp => opq_apps w' (.tmp 7) (.tmp 9) 22 rfl 9 i0 (.string ⟨#[]⟩) 16 Tryz.underlying22 hi0 hz0 hz1 hz2 rfl be rfl (.slice a1 names.length c1) (names.map sV) names.length (by simp) rfl (HNS.out.ext hu) (by have := HNL.out; unfold maxLen; omega) (by have := HNL.out; omega) (fun b' c' w2 hu2 hsl => hp (b', c') w2 hu2 (hsl.mono (fun b hb _ => New.mono hu b hb)) (fun b hb => by cases hb))) ?_
    rintro ⟨na, nc⟩
    simp only [Act.put, List.setIfInBounds_toArray, List.set_cons_zero, List.set_cons_succ]
    iterate 7 (refine seg_plain rfl rfl rfl rfl rfl ?_; intro K' hK'; go_big_quiet_op; go_big_quiet_on)
    refine seg_alloc (.cells #[.int .i64 0, .slice none 0 0, .int .i64 0, .int .i64 0, .int .i64 0, .slice none 0 0] 34) rfl rfl rfl (fun w => by go_simp) ?_
    intro bn
    simp only [Act.put, List.setIfInBounds_toArray, List.set_cons_zero, List.set_cons_succ]
    intro w9 hg
    have hup := hg.up
    have hnb := hg.hold.1
    have hsl := hg.hold.2.1
    have hin := hg.inb
    simp only [List.drop_succ_cons, List.drop_zero]
    have hbn : W.heap.size ≤ bn ∧ bn < w9.heap.size := hin _ (List.Mem.head _) bn (List.Mem.head _)
    have HSL := Lib.hid hsl
    have HUP := Lib.hid hup
    have HBN := Lib.hid hnb
    have HLT := Lib.hid hbn
    have HWL := Lib.hid hwl
    have hw2 : w.heap.size + 1 < W.heap.size := lt_of_heap HB2.out
    have HW2 := Lib.hid hw2
    obtain ⟨n0, n1, n2, n3, n4, n5⟩ := cells6 hnb
    obtain ⟨f0, f1, f2, f3, f4, f5⟩ := frees6 hnb
    have hset := set_same (set_same (set_same (set_same (set_same (set_same hnb 0 (.int .i64 op)) 1 (.slice na names.length nc)) 2 (.int .i64 so)) 3 (.int .i64 nn)) 4 (.int .i64 mm)) 5 (.slice none 0 0)
    simp only [List.setIfInBounds_toArray, List.set_cons_zero, List.set_cons_succ] at hset
    have hsu : Upto [bn] w9 ((((((w9.setCell ⟨bn, 0, none⟩ (.int .i64 op)).setCell ⟨bn, 1, none⟩ (.slice na names.length nc)).setCell ⟨bn, 2, none⟩ (.int .i64 so)).setCell ⟨bn, 3, none⟩ (.int .i64 nn)).setCell ⟨bn, 4, none⟩ (.int .i64 mm)).setCell ⟨bn, 5, none⟩ (.slice none 0 0)) := nd_self ..
    have HI0 : Hid (OfI w w9 bn op so nn mm na names.length nc (names.map sV) l 0 ((((((w9.setCell ⟨bn, 0, none⟩ (.int .i64 op)).setCell ⟨bn, 1, none⟩ (.slice na names.length nc)).setCell ⟨bn, 2, none⟩ (.int .i64 so)).setCell ⟨bn, 3, none⟩ (.int .i64 nn)).setCell ⟨bn, 4, none⟩ (.int .i64 mm)).setCell ⟨bn, 5, none⟩ (.slice none 0 0))) := Lib.hid
      ⟨hsu, (HU2.out.trans_ext hup).trans hsu (fun k hk => Or.inr (by simp at hk; omega)), none, 0, 0, fun _ _ => undef, hset, ⟨by simpa [cellsN] using World.ownsRow_nil _ 0 34 6, by simp, by intro g hg; cases hg⟩⟩
    clear hg hup hnb hsl hin hset hsu e0 e1 e2 e3 e4
    go_wp2_with fail
    have HLS := Lib.hid hls
    have HLN : Hid (l.length ≤ 10000000) := Lib.hid (by omega)
    generalize hll : l.length = ll at *
    have HLL := Lib.hid hll
    have hL0 : (0 : Int) ≤ ll := by omega
    have hL1 : (ll : Int) ≤ 10000000 := by have := HLN.out; omega
    clear hls hll
    go_loopw [4] (fun v wr => ∃ j : Nat, j ≤ ll ∧ v = .int .i64 j ∧ Hid (OfI w w9 bn op so nn mm na names.length nc (names.map sV) l j wr)) (fun v _ => ll - (intOf v).toNat)
    case atStart => exact ⟨0, by omega, rfl, HI0⟩
    case round =>
      obtain ⟨j, hj, rfl, HI⟩ := hrel
      obtain ⟨va, vn, vc, c, hbk, hrow⟩ := HI.out.st
      have hbox := HI.out.up.at (HUP.out.at HB1.out (by simp)) (by have := HLT.out; have := HWL.out; simp; omega)
      have z5 := cell_of hbox 5
      have y5 := cell_of hbk 5
      have g5 := free_of hbk 5
      simp only [List.getElem?_toArray, List.getElem?_cons_zero, List.getElem?_cons_succ] at z5 y5
      obtain ⟨va', vc', hve, -⟩ := ownsRow_len hrow.row
      simp only [Value.slice.injEq] at hve
      have hvn : vn = j := by have := HLL.out; rw [hve.2.1, List.length_take]; omega
      clear hve
      subst hvn
      rcases Nat.lt_or_ge vn ll with hlt | hge
      · obtain ⟨x, hx⟩ : ∃ x, l[vn]? = some x := ⟨_, List.getElem?_eq_getElem (by have := HLL.out; omega)⟩
        obtain ⟨g, o, xo, xn1, xn2, xn3, xs, xm, xq, xl1, xl2, xl3, rfl, c0, c1', c2', c3, c4, c5, hn⟩ := (HLS.out.ext HI.out.old) vn x hx
        have hjl : (l.take vn).length = vn := by have := HLL.out; rw [List.length_take]; omega
        have HJL := Lib.hid hjl
        have HTK : Hid (l.take (vn + 1) = l.take vn ++ [x]) := Lib.hid (by
          obtain ⟨hi, rfl⟩ := List.getElem?_eq_some_iff.1 hx
          exact List.take_succ_eq_append_getElem hi)
        have HROW := Lib.hid hrow
        have HBK := Lib.hid hbk
        have hxs := sizesF_mem (List.mem_of_getElem? hx)
        have HC := Lib.hid (fun w1 (hu : Upto [] wr w1) => of_calls k x (by omega) (by omega) (bigs_mem hbg.2 (List.mem_of_getElem? hx)) P _ w1 (hn.ext hu))
        have hltI : (vn : Int) < ll := by omega
        have hj0 : (0 : Int) ≤ vn := by omega
        clear hrow hbk hbox hn hx
        go_wp2_with fail
        have e0 : ∀ u : Ext wr, u.w.cell? ⟨bn, 5, none⟩ = some (.slice va vn vc) := fun u => u.cell y5
        have e1 : ∀ u : Ext wr, u.w.cell? ⟨w.heap.size, 5, none⟩ = some _ := fun u => u.cell z5
        have k0 : ∀ u : Ext wr, u.w.cell? ⟨g, o + vn * 6, none⟩ = some _ := fun u => u.cell c0
        have k1 : ∀ u : Ext wr, u.w.cell? ⟨g, o + vn * 6 + 1, none⟩ = some _ := fun u => u.cell c1'
        have k2 : ∀ u : Ext wr, u.w.cell? ⟨g, o + vn * 6 + 2, none⟩ = some _ := fun u => u.cell c2'
        have k3 : ∀ u : Ext wr, u.w.cell? ⟨g, o + vn * 6 + 3, none⟩ = some _ := fun u => u.cell c3
        have k4 : ∀ u : Ext wr, u.w.cell? ⟨g, o + vn * 6 + 4, none⟩ = some _ := fun u => u.cell c4
        have k5 : ∀ u : Ext wr, u.w.cell? ⟨g, o + vn * 6 + 5, none⟩ = some _ := fun u => u.cell c5
        clear y5 z5 g5 c0 c1' c2' c3 c4 c5
        refine wp_region_seg_at [7, 8] [] [0, 1, 2, 3, 4, 5, 6, 7, 8] [9, 10, 11] 9 (by kernel_rfl) (by kernel_rfl) (by kernel_rfl) ?_
        iterate 7 (refine seg_plain rfl rfl rfl rfl rfl ?_; intro K' hK'; go_big_quiet_op; go_big_quiet_on)
        refine seg_callO (Y := (Int × Option Addr × Nat × Nat) × Int × Int × Int × Option Addr × Nat × Nat) (fun y => .agg #[.int .i64 y.1.1, .slice y.1.2.1 y.1.2.2.1 y.1.2.2.2, .int .i64 y.2.1, .int .i64 y.2.2.1, .int .i64 y.2.2.2.1, .slice y.2.2.2.2.1 y.2.2.2.2.2.1 y.2.2.2.2.2.2]) (fun y u => NdV u (New wr) x (.agg #[.int .i64 y.1.1, .slice y.1.2.1 y.1.2.2.1 y.1.2.2.2, .int .i64 y.2.1, .int .i64 y.2.2.1, .int .i64 y.2.2.2.1, .slice y.2.2.2.2.1 y.2.2.2.2.2.1 y.2.2.2.2.2.2])) (fun _ => []) rfl rfl rfl rfl (fun _ _ _ h hu => h.ext hu) (fun _ => List.nodup_nil) (fun w => by go_simp) (fun w' hu hd => (HC.out w' hu).mono fun e w2 ⟨v, h1, h2, h3⟩ => by
          obtain ⟨ro, rn1, rn2, rn3, rs, rm, rq, rl1, rl2, rl3, rfl⟩ := h2.six
          exact ⟨((ro, rn1, rn2, rn3), rs, rm, rq, rl1, rl2, rl3), h1, h3, h2.mono (fun b hb _ => New.mono hu b hb), fun b hb => by cases hb⟩) ?_
        rintro ⟨⟨ro, rn1, rn2, rn3⟩, rs, rm, rq, rl1, rl2, rl3⟩
        simp only [Act.put, List.setIfInBounds_toArray, List.set_cons_zero, List.set_cons_succ]
        refine seg_opq (Y := Nat) (fun b => .slice (some ⟨b, 0, none⟩) 1 1) (fun b u => u.heap[b]? = some (.cells #[.int .i64 ro, .slice rn1 rn2 rn3, .int .i64 rs, .int .i64 rm, .int .i64 rq, .slice rl1 rl2 rl3] 34 (0, 0))) (fun _ => []) rfl rfl rfl rfl (fun _ _ _ h hu => hu.at h (by simp)) (fun _ => List.nodup_nil) (fun w' post hu hd hp => (congrArg (opqUpon Tryz.prog post) (show _ = Result.ok (Next.value (.slice (some ⟨w'.heap.size, 0, none⟩) 1 1)) (w'.alloc (.cells #[.int .i64 ro, .slice rn1 rn2 rn3, .int .i64 rs, .int .i64 rm, .int .i64 rq, .slice rl1 rl2 rl3] 34)) from by go_simp)).mpr (hp w'.heap.size _ ((Upto.refl [] w').alloc _) (new_at _ _) (fun b hb => by cases hb))) ?_
        intro b8
        simp only [Act.put, List.setIfInBounds_toArray, List.set_cons_zero, List.set_cons_succ]
        intro w10 hg
        have HU10 := Lib.hid hg.up
        have HB8 : Hid (w10.heap[b8]? = some (.cells #[.int .i64 ro, .slice rn1 rn2 rn3, .int .i64 rs, .int .i64 rm, .int .i64 rq, .slice rl1 rl2 rl3] 34 (0, 0))) := Lib.hid hg.hold.1
        have HND : Hid (NdV w10 (New wr) x (.agg #[.int .i64 ro, .slice rn1 rn2 rn3, .int .i64 rs, .int .i64 rm, .int .i64 rq, .slice rl1 rl2 rl3])) := Lib.hid hg.hold.2.1
        simp only [List.drop_succ_cons, List.drop_zero]
        clear hg e0 e1 k0 k1 k2 k3 k4 k5
        have HR10 := Lib.hid (HROW.out.upto HU10.out (by simp))
        have hr10 := HR10.out.row
        rw [hjl] at hr10
        have HRR := Lib.hid hr10
        obtain ⟨i1, hi1, hy0, hy1, hy2⟩ := infoO4'
        have hL7 := HLN.out
        have HA := Lib.hid (fun b5 c5 w5 (ho5 : w5.ownsRow 0 34 6 (.slice b5 (vn + 1) c5) (vn + 1) (cellsN c vn ++ [.int .i64 ro, .slice rn1 rn2 rn3, .int .i64 rs, .int .i64 rm, .int .i64 rq, .slice rl1 rl2 rl3])) (hu5 : Upto (Value.slice va vn vc).ownBlock.toList w10 w5) (hw5 : ∀ g, (Value.slice b5 (vn + 1) c5).ownBlock = some g → (Value.slice va vn vc).ownBlock = some g ∨ w10.heap.size ≤ g) => of_step HI.out HLT.out HWL.out HUP.out HBK.out HROW.out HU10.out HND.out HJL.out HTK.out ho5 hu5 hw5)
        clear hr10 hjl
        go_wp2_with (at_builtin
                     refine wpList_app _ rfl (.tmp 26) (.tmp 33) 32 rfl 34 i1 (.agg #[.int .i64 0, .slice none 0 0, .int .i64 0, .int .i64 0, .int .i64 0, .slice none 0 0]) 6 80 Tryz.underlying32 hi1 hy0 hy1 hy2 rfl (by decide) (.slice va vn vc) vn (cellsN c vn) rfl HRR.out ⟨b8, 0, none⟩ 1 1 [.int .i64 ro, .slice rn1 rn2 rn3, .int .i64 rs, .int .i64 rm, .int .i64 rq, .slice rl1 rl2 rl3] rfl rfl (six_at HB8.out) (by simp [Value.oneCell']) (by unfold maxLen; omega) (by omega) ?_
                     intro b5 c5 w5 ho5 hu5 hw5
                     obtain ⟨hbk5, hI5⟩ := HA.out b5 c5 w5 ho5 hu5 hw5
                     have y5 := cell_of hbk5 5
                     have g5 := free_of hbk5 5
                     simp only [List.getElem?_toArray, List.getElem?_cons_zero, List.getElem?_cons_succ] at y5
                     have HI5 := Lib.hid hI5
                     clear ho5 hu5 hw5 hbk5 hI5)
        go_roundw
        case rel => exact ⟨vn + 1, by omega, by go_num, HI5⟩
        case measure => simp [intOf]; omega
      · obtain rfl : vn = ll := by omega
        have hgeI : ¬ ((vn : Int) < vn) := by omega
        have HROW := Lib.hid hrow
        have HBK := Lib.hid hbk
        have hz2 := HI.out.up.at (HUP.out.at HB2.out (by simp)) (by have h1 := HLT.out; have h2 := HW2.out; simp; omega)
        have HZ2 := Lib.hid hz2
        obtain ⟨p0, p1, p2, p3, p4, p5⟩ := cells6 hbk
        obtain ⟨r0, r1, r2, r3, r4, r5⟩ := cells6 hz2
        obtain ⟨t0, t1, t2, t3, t4, t5⟩ := frees6 hz2
        have hF := of_end (names := names) (_P := P) HI.out HLT.out HWL.out HW2.out HUP.out HBN.out HSL.out HZ2.out HROW.out (List.take_of_length_le (by have := HLL.out; omega)) HLL.out
        have HF := Lib.hid hF
        clear hrow hbk hz2 hbox hF
        go_wp2_with fail
        have hst := nd_store HZ2.out (.int .i64 op) (.slice na names.length nc) (.int .i64 so) (.int .i64 nn) (.int .i64 mm) (.slice va vn vc)
        obtain ⟨q0, q1, q2, q3, q4, q5⟩ := cells6 hst
        exact bodyPost_ret (v := .agg #[.int .i64 op, .slice na names.length nc, .int .i64 so, .int .i64 nn, .int .i64 mm, .slice va vn vc]) (by simp [results, go_sem, q0, q1, q2, q3, q4, q5]) rfl HF.out
theorem infoV (T : TypeId) (h : (Tryz.prog.info? T).map (fun i => (i.zero, i.size, i.bytes)) = some (some (.agg #[.string ⟨#[]⟩, .int .i64 0]), 2, 24)) : ∃ i, Tryz.prog.info? T = some i ∧ i.zero = some (.agg #[.string ⟨#[]⟩, .int .i64 0]) ∧ i.size = 2 ∧ i.bytes = 24 := by
  cases hi : Tryz.prog.info? T with
  | none => rw [hi] at h; cases h
  | some i =>
    rw [hi] at h
    simp only [Option.map_some, Option.some.injEq, Prod.mk.injEq] at h
    exact ⟨i, rfl, h.1, h.2.1, h.2.2⟩
theorem infoV86 : ∃ i, Tryz.prog.info? 86 = some i ∧ i.zero = some (.agg #[.string ⟨#[]⟩, .int .i64 0]) ∧ i.size = 2 ∧ i.bytes = 24 := infoV 86 (by kernel_rfl)
def QuPost (w : World) (q : Qn) (e : Ending) (w' : World) : Prop := ∃ v, e = .returned v ∧ QnV w' (New w) q v ∧ Upto [] w w'
structure QbI (w4 : World) (bn : Nat) (x1 x2 x3 x4 x5 x6 : Value) (T EL : TypeId) (f : List (List UInt8 × Int)) (j : Nat) (wr : World) : Prop where
  up : Upto [bn] w4 wr
  st : ∃ (va : Option Addr) (vn vc : Nat), wr.heap[bn]? = some (.cells #[.slice va vn vc, x1, x2, x3, x4, x5, x6] T (0, 0)) ∧ wr.ownsRow 0 EL 2 (.slice va vn vc) j ((f.take j).flatMap varC) ∧ ∀ g, (Value.slice va vn vc).ownBlock = some g → w4.heap.size ≤ g
theorem qb_step {w4 wr w10 w5 : World} {bn : Nat} {x1 x2 x3 x4 x5 x6 : Value} {T EL : TypeId} {f : List (List UInt8 × Int)} {j : Nat} {va : Option Addr} {vn vc : Nat} {x : List UInt8 × Int} {b5 : Option Addr} {c5 : Nat}
    (HU : Upto [bn] w4 wr) (hlt : bn < w4.heap.size) (hbk : wr.heap[bn]? = some (.cells #[.slice va vn vc, x1, x2, x3, x4, x5, x6] T (0, 0))) (hown : ∀ g, (Value.slice va vn vc).ownBlock = some g → w4.heap.size ≤ g)
    (hu : Upto [] wr w10) (htk : f.take (j + 1) = f.take j ++ [x]) (ho5 : w5.ownsRow 0 EL 2 (.slice b5 (j + 1) c5) (j + 1) ((f.take j).flatMap varC ++ [.string ⟨x.1.toArray⟩, .int .i64 x.2])) (hu5 : Upto (Value.slice va vn vc).ownBlock.toList w10 w5)
    (hw5 : ∀ g, (Value.slice b5 (j + 1) c5).ownBlock = some g → (Value.slice va vn vc).ownBlock = some g ∨ w10.heap.size ≤ g) :
    w5.heap[bn]? = some (.cells #[.slice va vn vc, x1, x2, x3, x4, x5, x6] T (0, 0)) ∧ QbI w4 bn x1 x2 x3 x4 x5 x6 T EL f (j + 1) (w5.setCell ⟨bn, 0, none⟩ (.slice b5 (j + 1) c5)) := by
  have hb5 := hu5.at (hu.at hbk (by simp)) (fun hm => by have := hown _ (Option.mem_toList.1 hm); omega)
  have hst : Upto [bn] w5 (w5.setCell ⟨bn, 0, none⟩ (.slice b5 (j + 1) c5)) := (Upto.refl [bn] w5).setCell (p := ⟨bn, 0, none⟩) (Or.inl (by simp)) _
  have h1 := HU.size
  have h2 := hu.size
  have hnew : ∀ g, (Value.slice b5 (j + 1) c5).ownBlock = some g → w4.heap.size ≤ g := fun g hg => by
    rcases hw5 g hg with h | h
    · exact hown g h
    · omega
  refine ⟨hb5, ?_, b5, j + 1, c5, ?_, ?_, hnew⟩
  · exact ((HU.trans_ext hu).trans hu5 (fun k hk => Or.inr (hown k (Option.mem_toList.1 hk)))).setCell (p := ⟨bn, 0, none⟩) (Or.inl (by simp)) _
  · simpa using set_same hb5 0 (.slice b5 (j + 1) c5)
  · rw [htk, List.flatMap_append]
    exact ownsRow_upto ho5 hst (fun g hg => by have := hnew g hg; simp; omega)
theorem set7_up {S : List Nat} {a w : World} {R : Nat} (h : Upto S a w) (hR : R ∈ S ∨ a.heap.size ≤ R) (v0 v1 v2 v3 v4 v5 v6 : Value) : Upto S a (((((((w.setCell ⟨R, 0, none⟩ v0).setCell ⟨R, 1, none⟩ v1).setCell ⟨R, 2, none⟩ v2).setCell ⟨R, 3, none⟩ v3).setCell ⟨R, 4, none⟩ v4).setCell ⟨R, 5, none⟩ v5).setCell ⟨R, 6, none⟩ v6) :=
  ((((((h.setCell (p := ⟨R, 0, none⟩) hR v0).setCell (p := ⟨R, 1, none⟩) hR v1).setCell (p := ⟨R, 2, none⟩) hR v2).setCell (p := ⟨R, 3, none⟩) hR v3).setCell (p := ⟨R, 4, none⟩) hR v4).setCell (p := ⟨R, 5, none⟩) hR v5).setCell (p := ⟨R, 6, none⟩) hR v6
theorem set7_at {w : World} {R : Nat} {a0 a1 a2 a3 a4 a5 a6 : Value} {T : TypeId} {z : Nat × Nat} (h : w.heap[R]? = some (.cells #[a0, a1, a2, a3, a4, a5, a6] T z)) (v0 v1 v2 v3 v4 v5 v6 : Value) : (((((((w.setCell ⟨R, 0, none⟩ v0).setCell ⟨R, 1, none⟩ v1).setCell ⟨R, 2, none⟩ v2).setCell ⟨R, 3, none⟩ v3).setCell ⟨R, 4, none⟩ v4).setCell ⟨R, 5, none⟩ v5).setCell ⟨R, 6, none⟩ v6).heap[R]? = some (.cells #[v0, v1, v2, v3, v4, v5, v6] T z) := by
  have := set_same (set_same (set_same (set_same (set_same (set_same (set_same h 0 v0) 1 v1) 2 v2) 3 v3) 4 v4) 5 v5) 6 v6
  simpa using this
theorem qb_end {w W2 w3 w4 wr : World} {bn R : Nat} {x1 x2 x3 x4 x5 x6 : Value} {EL : TypeId} {q : Qn} {va : Option Addr} {vn vc : Nat} (hW : Upto [] w W2) (hR : w.heap.size ≤ R ∧ R < W2.heap.size) (h3 : Upto [] W2 w3) (hb : bn = w3.heap.size) (h4 : Upto [] w3 w4) (HU : Upto [bn] w4 wr) (hlt : bn < w4.heap.size)
    (hn : NdV w3 (New W2) q.body (.agg #[x1, x2, x3, x4, x5, x6])) (hrow : wr.ownsRow 0 EL 2 (.slice va vn vc) q.free.length (q.free.flatMap varC)) (hown : ∀ g, (Value.slice va vn vc).ownBlock = some g → w4.heap.size ≤ g) :
    QuPost w q (.returned (.agg #[.slice va vn vc, x1, x2, x3, x4, x5, x6])) (((((((wr.setCell ⟨R, 0, none⟩ (.slice va vn vc)).setCell ⟨R, 1, none⟩ x1).setCell ⟨R, 2, none⟩ x2).setCell ⟨R, 3, none⟩ x3).setCell ⟨R, 4, none⟩ x4).setCell ⟨R, 5, none⟩ x5).setCell ⟨R, 6, none⟩ x6) := by
  have hst := set7_up (R := R) (Upto.refl [R] wr) (Or.inl (by simp)) (.slice va vn vc) x1 x2 x3 x4 x5 x6
  have s1 := hW.size
  have s2 := h3.size
  have s3 := h4.size
  have hold : Upto [] w wr := ((hW.trans_ext h3).trans_ext h4).trans HU (fun k hk => by simp at hk; subst hk; right; omega)
  refine ⟨_, rfl, ⟨_, _, _, _, _, _, _, rfl, ?_, ?_⟩, set7_up hold (Or.inr hR.1) ..⟩
  · exact SlP.upto (slP_rowN (P := fun g => w4.heap.size ≤ g) hrow hown) hst (fun b hb2 _ => by simp; omega) |>.mono (fun b hb2 _ => by unfold New; omega)
  · have k1 := hn.mono (Q := fun b => W2.heap.size ≤ b ∧ b < bn) (fun b hb2 hi => ⟨hb2, by have := hi.lt; omega⟩)
    have k2 := (k1.ext h4).upto HU (fun b hb2 _ => by have := hb2.2; simp; omega)
    exact (k2.upto hst (fun b hb2 _ => by have := hb2.1; simp; omega)).mono (fun b hb2 _ => by have := hb2.1; unfold New; omega)
set_option maxRecDepth 100000 in
set_option maxHeartbeats 6400000 in
theorem ofq_calls (q : Qn) (v : Value) (w : World) (P : Nat → Prop) (h : QnV w P q v) (hk : sizeF q.body ≤ 10000000) (hb : bigN q.body) (hl : q.free.length ≤ 10000000) : Calls Tryz.prog 25 #[v] w (QuPost w q) := by
  obtain ⟨f1, f3, o1, a1, a2, a3, s1, n1, m1, l1, l2, l3, rfl, hv, hn⟩ := h.open
  have hu2 : Upto [] w ((w.alloc (.cells #[.slice f1 q.free.length f3, .int .i64 o1, .slice a1 a2 a3, .int .i64 s1, .int .i64 n1, .int .i64 m1, .slice l1 l2 l3] 45)).alloc (.cells #[.slice none 0 0, .int .i64 0, .slice none 0 0, .int .i64 0, .int .i64 0, .int .i64 0, .slice none 0 0] 48)) := ((Upto.refl [] w).alloc _).alloc _
  have HU2 := Lib.hid hu2
  have hb1 := alloc_old (new_at w (.cells #[.slice f1 q.free.length f3, .int .i64 o1, .slice a1 a2 a3, .int .i64 s1, .int .i64 n1, .int .i64 m1, .slice l1 l2 l3] 45)) (.cells #[.slice none 0 0, .int .i64 0, .slice none 0 0, .int .i64 0, .int .i64 0, .int .i64 0, .slice none 0 0] 48)
  have hb2 := new_at1 w (.cells #[.slice f1 q.free.length f3, .int .i64 o1, .slice a1 a2 a3, .int .i64 s1, .int .i64 n1, .int .i64 m1, .slice l1 l2 l3] 45) (.cells #[.slice none 0 0, .int .i64 0, .slice none 0 0, .int .i64 0, .int .i64 0, .int .i64 0, .slice none 0 0] 48)
  have HB1 := Lib.hid hb1
  have HB2 := Lib.hid hb2
  have HG := Lib.hid (vars_slice hv)
  have HC := Lib.hid (of_calls _ q.body (Nat.le_refl _) hk hb P _ _ (hn.ext hu2))
  obtain ⟨xa0, xa1, xa2, xa3, xa4, xa5, xa6⟩ := cells7 hb1
  obtain ⟨ya0, ya1, ya2, ya3, ya4, ya5, ya6⟩ := frees7 hb2
  have hL0 : (0 : Int) ≤ q.free.length := by omega
  have hL1 : (q.free.length : Int) ≤ 10000000 := by omega
  clear h hv hn hb hu2 hb1 hb2 hk
  go_enter Tryz.func25, Tryz.ntmps25
  go_wp2_with fail
  refine HC.out.mono ?_
  rintro e w3 ⟨v3, rfl, hn3, hu3⟩
  obtain ⟨ro, rn1, rn2, rn3, rs, rm, rq, rl1, rl2, rl3, rfl⟩ := hn3.six
  have HN3 := Lib.hid hn3
  have HU3 := Lib.hid hu3
  have hua : Upto [] w3 (w3.alloc (.cells #[.slice none 0 0, .int .i64 ro, .slice rn1 rn2 rn3, .int .i64 rs, .int .i64 rm, .int .i64 rq, .slice rl1 rl2 rl3] 48)) := (Upto.refl [] w3).alloc _
  have HUA := Lib.hid hua
  have hbn := new_at w3 (.cells #[.slice none 0 0, .int .i64 ro, .slice rn1 rn2 rn3, .int .i64 rs, .int .i64 rm, .int .i64 rq, .slice rl1 rl2 rl3] 48)
  have HI0 : Hid (QbI (w3.alloc (.cells #[.slice none 0 0, .int .i64 ro, .slice rn1 rn2 rn3, .int .i64 rs, .int .i64 rm, .int .i64 rq, .slice rl1 rl2 rl3] 48)) w3.heap.size (.int .i64 ro) (.slice rn1 rn2 rn3) (.int .i64 rs) (.int .i64 rm) (.int .i64 rq) (.slice rl1 rl2 rl3) 48 86 q.free 0 (w3.alloc (.cells #[.slice none 0 0, .int .i64 ro, .slice rn1 rn2 rn3, .int .i64 rs, .int .i64 rm, .int .i64 rq, .slice rl1 rl2 rl3] 48))) := Lib.hid ⟨Upto.refl _ _, none, 0, 0, hbn, by simpa using World.ownsRow_nil _ 0 86 2, by intro g hg; cases hg⟩
  have HLT : Hid (w3.heap.size < (w3.alloc (.cells #[.slice none 0 0, .int .i64 ro, .slice rn1 rn2 rn3, .int .i64 rs, .int .i64 rm, .int .i64 rq, .slice rl1 rl2 rl3] 48)).heap.size) := Lib.hid (by simp)
  have HQ4 := Lib.hid (hua.at (hu3.at HB1.out (by simp)) (by simp))
  have HR4 := Lib.hid (hua.at (hu3.at HB2.out (by simp)) (by simp))
  have HWS : Hid (w.heap.size + 1 < w3.heap.size) := Lib.hid (lt_of_heap (hu3.at HB2.out (by simp)))
  have HW4 := Lib.hid ((HU2.out.trans_ext hu3).trans_ext hua)
  clear hn3 hu3 hua hbn
  go_wp2_with fail
  generalize hw4 : w3.alloc (.cells #[.slice none 0 0, .int .i64 ro, .slice rn1 rn2 rn3, .int .i64 rs, .int .i64 rm, .int .i64 rq, .slice rl1 rl2 rl3] 48) = w4 at *
  obtain ⟨bn, hbn, HBN⟩ : ∃ bn, bn = w3.heap.size ∧ Hid (bn = w3.heap.size) := ⟨_, rfl, Lib.hid rfl⟩
  rw [← hbn] at HI0 HLT ⊢
  clear hw4 hbn
  go_loopw [4] (fun v wr => ∃ j : Nat, j ≤ q.free.length ∧ v = .int .i64 j ∧ Hid (QbI w4 bn (.int .i64 ro) (.slice rn1 rn2 rn3) (.int .i64 rs) (.int .i64 rm) (.int .i64 rq) (.slice rl1 rl2 rl3) 48 86 q.free j wr)) (fun v _ => q.free.length - (intOf v).toNat)
  case atStart => exact ⟨0, by omega, rfl, HI0⟩
  case round =>
    obtain ⟨j, hj, rfl, HI⟩ := hrel
    have hj0 : (0 : Int) ≤ j := by omega
    obtain ⟨va, vn, vc, hbk, hrow, hown⟩ := HI.out.st
    obtain ⟨va', vc', hve, -⟩ := ownsRow_len hrow
    simp only [Value.slice.injEq] at hve
    obtain rfl : vn = j := hve.2.1
    clear hve
    have hq := HI.out.up.at HQ4.out (by have h1 := HBN.out; have h2 := HWS.out; simp; omega)
    have HWR : Hid (Upto [] w wr) := Lib.hid (HW4.out.trans HI.out.up (fun k hk => by have h1 := HBN.out; have h2 := HWS.out; simp at hk; subst hk; right; omega))
    have z0 := cell_of hq 0
    have y0 := cell_of hbk 0
    have g0 := free_of hbk 0
    simp only [List.getElem?_toArray, List.getElem?_cons_zero] at z0 y0
    rcases Nat.lt_or_ge vn q.free.length with hlt | hge
    · have hltI : (vn : Int) < q.free.length := by omega
      obtain ⟨x, hx⟩ : ∃ x, q.free[vn]? = some x := ⟨_, List.getElem?_eq_getElem hlt⟩
      have HTK : Hid (q.free.take (vn + 1) = q.free.take vn ++ [x]) := Lib.hid (by rw [List.take_add_one, hx]; rfl)
      obtain ⟨g, o, rfl, c0, c1⟩ := HG.out vn x hx
      obtain ⟨x1, x2⟩ := x
      simp only at c0 c1
      replace c0 := up_cell HWR.out c0
      replace c1 := up_cell HWR.out c1
      have HROW := Lib.hid hrow
      have HBK := Lib.hid hbk
      have HOWN := Lib.hid hown
      clear hrow hbk hown hq hx
      go_wp2_with fail
      have e0 : ∀ u : Ext wr, u.w.cell? ⟨bn, 0, none⟩ = some (.slice va vn vc) := fun u => u.cell y0
      have e1 : ∀ u : Ext wr, u.w.cell? ⟨w.heap.size, 0, none⟩ = some _ := fun u => u.cell z0
      have k0 : ∀ u : Ext wr, u.w.cell? ⟨g, o + vn * 2, none⟩ = some _ := fun u => u.cell c0
      have k1 : ∀ u : Ext wr, u.w.cell? ⟨g, o + vn * 2 + 1, none⟩ = some _ := fun u => u.cell c1
      clear z0 y0 g0 c0 c1
      refine wp_region_seg_at [15] [] [0, 1, 2, 3, 4, 5, 6, 7, 8, 9, 10, 11, 12, 13, 14, 15] [16, 17, 18] 16 (by kernel_rfl) (by kernel_rfl) (by kernel_rfl) ?_
      iterate 15 (refine seg_plain rfl rfl rfl rfl rfl ?_; intro K' hK'; go_big_quiet_op; go_big_quiet_on)
      refine seg_opq (Y := Nat) (fun b => .slice (some ⟨b, 0, none⟩) 1 1) (fun b u => u.heap[b]? = some (.cells #[.string ⟨x1.toArray⟩, .int .i64 x2] 86 (0, 0))) (fun _ => []) rfl rfl rfl rfl (fun _ _ _ h hu => hu.at h (by simp)) (fun _ => List.nodup_nil) (fun w' post hu hd hp => (congrArg (opqUpon Tryz.prog post) (show _ = Result.ok (Next.value (.slice (some ⟨w'.heap.size, 0, none⟩) 1 1)) (w'.alloc (.cells #[.string ⟨x1.toArray⟩, .int .i64 x2] 86)) from by go_simp)).mpr (hp w'.heap.size _ ((Upto.refl [] w').alloc _) (new_at _ _) (fun b hb => by cases hb))) ?_
      intro b8
      simp only [Act.put, List.setIfInBounds_toArray, List.set_cons_zero, List.set_cons_succ]
      intro w10 hg
      have HU10 := Lib.hid hg.up
      have HB8 : Hid (w10.heap[b8]? = some (.cells #[.string ⟨x1.toArray⟩, .int .i64 x2] 86 (0, 0))) := Lib.hid hg.hold.1
      simp only [List.drop_succ_cons, List.drop_zero]
      clear hg e0 e1 k0 k1
      have HRR := Lib.hid (ownsRow_upto HROW.out HU10.out (by simp))
      obtain ⟨i1, hi1, hy0, hy1, hy2⟩ := infoV86
      have HA := Lib.hid (fun b5 c5 w5 (ho5 : w5.ownsRow 0 86 2 (.slice b5 (vn + 1) c5) (vn + 1) ((q.free.take vn).flatMap varC ++ [.string ⟨x1.toArray⟩, .int .i64 x2])) (hu5 : Upto (Value.slice va vn vc).ownBlock.toList w10 w5) (hw5 : ∀ g, (Value.slice b5 (vn + 1) c5).ownBlock = some g → (Value.slice va vn vc).ownBlock = some g ∨ w10.heap.size ≤ g) => qb_step (x := (x1, x2)) HI.out.up HLT.out HBK.out HOWN.out HU10.out HTK.out ho5 hu5 hw5)
      go_wp2_with (at_builtin
                   refine wpList_app _ rfl (.tmp 17) (.tmp 31) 46 rfl 86 i1 (.agg #[.string ⟨#[]⟩, .int .i64 0]) 2 24 Tryz.underlying46 hi1 hy0 hy1 hy2 rfl (by decide) (.slice va vn vc) vn ((q.free.take vn).flatMap varC) rfl HRR.out ⟨b8, 0, none⟩ 1 1 [.string ⟨x1.toArray⟩, .int .i64 x2] rfl rfl (two_at HB8.out) (by simp [Value.oneCell']) (by unfold maxLen; omega) (by omega) ?_
                   intro b5 c5 w5 ho5 hu5 hw5
                   obtain ⟨hbk5, hI5⟩ := HA.out b5 c5 w5 ho5 hu5 hw5
                   have y5 := cell_of hbk5 0
                   have g5 := free_of hbk5 0
                   simp only [List.getElem?_toArray, List.getElem?_cons_zero] at y5
                   have HI5 := Lib.hid hI5
                   clear ho5 hu5 hw5 hbk5 hI5)
      go_roundw
      case rel => exact ⟨vn + 1, by omega, by go_num, HI5⟩
      case measure => simp [intOf]; omega
    · have hgeI : ¬ (vn : Int) < q.free.length := by omega
      have HROW := Lib.hid hrow
      have HOWN := Lib.hid hown
      have hr := HI.out.up.at HR4.out (by have h1 := HBN.out; have h2 := HWS.out; simp; omega)
      obtain ⟨pa0, pa1, pa2, pa3, pa4, pa5, pa6⟩ := cells7 hbk
      obtain ⟨pf0, pf1, pf2, pf3, pf4, pf5, pf6⟩ := frees7 hbk
      obtain ⟨ra0, ra1, ra2, ra3, ra4, ra5, ra6⟩ := cells7 hr
      obtain ⟨rf0, rf1, rf2, rf3, rf4, rf5, rf6⟩ := frees7 hr
      have HEND := Lib.hid (qb_end (q := q) (R := w.heap.size + 1) HU2.out ⟨by omega, by simp⟩ HU3.out HBN.out HUA.out HI.out.up HLT.out HN3.out (by have := HROW.out; rw [List.take_of_length_le (by omega)] at this; rwa [show vn = q.free.length by omega] at this ⊢) HOWN.out)
      have HR := Lib.hid hr
      clear hrow hown hbk hq hr
      go_wp2_with fail
      have hst := set7_at HR.out (.slice va vn vc) (.int .i64 ro) (.slice rn1 rn2 rn3) (.int .i64 rs) (.int .i64 rm) (.int .i64 rq) (.slice rl1 rl2 rl3)
      obtain ⟨q0, q1, q2, q3, q4, q5, q6⟩ := cells7 hst
      exact bodyPost_ret (v := .agg #[.slice va vn vc, .int .i64 ro, .slice rn1 rn2 rn3, .int .i64 rs, .int .i64 rm, .int .i64 rq, .slice rl1 rl2 rl3]) (by simp [results, Tryz.results25, go_sem, q0, q1, q2, q3, q4, q5, q6]) rfl HEND.out
def Unf (w : World) (b : Nat) : Prop := ∃ cs t, w.heap[b]? = some (.cells cs t (0, 0))
theorem Unf.stay {w w' : World} {b : Nat} (h : Unf w b) (he : w'.heap[b]? = w.heap[b]?) : Unf w' b := by
  obtain ⟨cs, t, h⟩ := h
  exact ⟨cs, t, he.trans h⟩
def Nu (w0 w : World) (b : Nat) : Prop := New w0 b ∧ Unf w b
def Lu (w0 w : World) (B : Nat) (v : Value) (b : Nat) : Prop := Lr w0 B v b ∧ Unf w b
theorem keepNu {S : List Nat} {w0 w w' : World} (hu : Upto S w w') (hs : ∀ b, Nu w0 w b → b ∉ S) : Keep w w' (Nu w0 w) (Nu w0 w') := ⟨hu.size, fun b hb hl => ⟨⟨hb.1, hb.2.stay (hu.block b hl.lt (hs b hb))⟩, hu.block b hl.lt (hs b hb)⟩⟩
theorem NdV.nu {w0 w w' : World} {nd : Nd} {v : Value} (h : NdV w (Nu w0 w) nd v) (hu : Upto [] w w') : NdV w' (Nu w0 w') nd v := NdV.keep (keepNu hu (by simp)) nd v h
set_option maxRecDepth 100000 in
set_option maxHeartbeats 3200000 in
theorem sclone_calls (xs : List Value) (a : Option Addr) (n c : Nat) (w : World) (P : Nat → Prop) (hn : xs.length = n) (hN : n ≤ 10000000) (hx : ∀ u ∈ xs, u.oneCell' = true) (h : SlP w P (.slice a n c) n xs) : Calls Tryz.prog 62 #[.slice a n c] w fun e w' => ∃ a' c', e = .returned (.slice a' n c') ∧ SlP w' (Nu w w') (.slice a' n c') n xs ∧ Upto [] w w' := by
  have q22 : ∀ (w : World) (a : Option Addr) (n c n' c' : Nat), (binOp .eql 22 (.slice a n c) (.slice none n' c')).run Tryz.prog w = .ok (.bool a.isNone) w := fun w a n c n' c' => Lib.run_eql_slice_nil w _ _ a n c n' c' Tryz.underlying22
  cases a with
  | none =>
    have hn0 : n = 0 := by
      rcases h with ⟨h0, -⟩ | ⟨g, o, c, h0, -⟩
      · exact h0
      · cases h0
    subst hn0
    have hx0 : xs = [] := List.eq_nil_of_length_eq_zero hn
    subst hx0
    clear h hx
    go_enter Tryz.func62, Tryz.ntmps62
    go_wp2
    go_ret
    exact ⟨none, 0, rfl, Or.inl ⟨rfl, rfl, none, 0, rfl⟩, Upto.refl _ _⟩
  | some ad =>
    obtain ⟨i0, hi, hz0, hz1, hz2⟩ := info9'
    have A : Aside (∀ j u, xs[j]? = some u → w.cell? (ad.add j) = some u) := by
      intro j u hj
      rcases h with ⟨-, h0, -⟩ | ⟨g, o, c, h0, -, hc⟩
      · subst h0; cases hj
      · simp only [Value.slice.injEq, Option.some.injEq] at h0
        obtain ⟨h0, -, -⟩ := h0
        subst h0
        rw [Addr.add_lit]
        exact hc j u hj
    have HX := Lib.hid hx
    have HN := Lib.hid hn
    clear h hx hn
    go_enter Tryz.func62, Tryz.ntmps62
    go_wp2_with (at_builtin; refine wpList_append_own _ rfl _ _ 22 rfl w.heap.size 9 i0 (.string { data := #[] }) 1 16 Tryz.underlying22 hi hz0 hz1 hz2 rfl (by decide) _ _ _ rfl (World.ownsRow_made w #[] 0 (Nat.le_refl _) (Nat.zero_le _) rfl) ad n c xs rfl ?qc1 ?qc2 ?qc3 ?qc4 ?qc5 ?qc6 ?_)
    case qc1 => have := HN.out; omega
    case qc2 =>
      intro j u hj
      exact Lib.cell?_alloc_some _ (A.out j u hj)
    case qc3 => exact HX.out
    case qc4 => unfold maxLen; omega
    case qc5 => omega
    case qc6 => simp
    intro v' w1 hown hgrow _
    obtain ⟨a', c', rfl, -⟩ := ownsRow_len hown
    have hup : Upto [] w w1 := ((Upto.refl [] w).alloc _).grown hgrow (by intro k hk; simp [Value.ownBlock] at hk; omega)
    have hsl : SlP w1 (Nu w w1) (.slice a' n c') n xs := by
      have hown2 : w1.ownsRow w.heap.size 9 1 (.slice a' n c') n xs := by simpa using hown
      have hnu : ∀ g, (Value.slice a' n c').ownBlock = some g → Nu w w1 g := fun g hg => by
        rcases hown2.2 with ⟨e, -⟩ | ⟨g', cap, cur, e, hge, hh, -⟩
        · rw [e] at hg; cases hg
        · rw [e] at hg
          simp [Value.ownBlock] at hg
          subst hg
          exact ⟨hge, _, _, hh⟩
      exact SlP.of_row (e := 9) ⟨hown2.1, hown2.2.imp id (fun ⟨g, cap, cur, h1, h2, h3⟩ => ⟨g, cap, cur, h1, Nat.zero_le _, h3⟩)⟩ hnu
    clear hown hgrow
    have HF := Lib.hid (And.intro hsl hup)
    clear hsl hup
    go_wp2
    go_ret
    exact ⟨a', c', by simp, HF.out.1, HF.out.2⟩
def ClPost (w : World) (nd : Nd) (e : Ending) (w' : World) : Prop := ∃ v, e = .returned v ∧ NdV w' (Nu w w') nd v ∧ Upto [] w w'
structure ClRow (w0 w : World) (B : Nat) (c : Nat → Nat → Value) (v : Value) (ms : List Nd) : Prop where
  row : w.ownsRow 0 34 6 v ms.length (cellsN c ms.length)
  nd : ∀ i m, ms[i]? = some m → NdV w (Lu w0 w B v) m (.agg #[c i 0, c i 1, c i 2, c i 3, c i 4, c i 5])
  own : ∀ g, v.ownBlock = some g → w0.heap.size ≤ g ∧ g ≠ B
theorem ClRow.upto {w0 w w' : World} {S : List Nat} {B : Nat} {c : Nat → Nat → Value} {v : Value} {ms : List Nd} (h : ClRow w0 w B c v ms) (hu : Upto S w w') (hS : ∀ k ∈ S, k < w0.heap.size ∨ k = B) : ClRow w0 w' B c v ms :=
  ⟨ownsRow_upto h.row hu (fun g hg hm => by have h1 := h.own g hg; rcases hS g hm with h2 | h2 <;> omega),
   fun i m hi => NdV.keep ⟨hu.size, fun b hb hl => by
     have hne : b ∉ S := fun hm => by
       have h1 := hb.1.1
       unfold New at h1
       rcases hS b hm with h2 | h2
       · omega
       · exact hb.1.2.1 h2
     exact ⟨⟨hb.1, hb.2.stay (hu.block b hl.lt hne)⟩, hu.block b hl.lt hne⟩⟩ _ _ (h.nd i m hi), h.own⟩
theorem ClRow.app {w0 w w5 : World} {B : Nat} {c : Nat → Nat → Value} {v : Value} {ms : List Nd} {m : Nd} {v0 v1 v2 v3 v4 v5 : Value} {b' : Option Addr} {c' : Nat} (h : ClRow w0 w B c v ms) (hsz : w0.heap.size ≤ w.heap.size) (hBw : B < w.heap.size)
    (hm : NdV w (Lu w0 w B v) m (.agg #[v0, v1, v2, v3, v4, v5])) (ho : w5.ownsRow 0 34 6 (.slice b' (ms.length + 1) c') (ms.length + 1) (cellsN c ms.length ++ [v0, v1, v2, v3, v4, v5])) (hu : Upto v.ownBlock.toList w w5)
    (hw : ∀ g, (Value.slice b' (ms.length + 1) c').ownBlock = some g → v.ownBlock = some g ∨ w.heap.size ≤ g) : ClRow w0 w5 B (addC c ms.length v0 v1 v2 v3 v4 v5) (.slice b' (ms.length + 1) c') (ms ++ [m]) := by
  have key : ∀ x u, NdV w (Lu w0 w B v) x u → NdV w5 (Lu w0 w5 B (.slice b' (ms.length + 1) c')) x u := fun x u hx =>
    NdV.keep ⟨hu.size, fun b hb hl => by
      have hs := hu.block b hl.lt (fun hmm => hb.1.2.2 (Option.mem_toList.1 hmm))
      refine ⟨⟨⟨hb.1.1, hb.1.2.1, fun e => ?_⟩, hb.2.stay hs⟩, hs⟩
      rcases hw b e with h1 | h1
      · exact hb.1.2.2 h1
      · have := hl.lt; omega⟩ x u hx
  refine ⟨?_, ?_, ?_⟩
  · rw [List.length_append, List.length_singleton, cellsN_add]
    exact ho
  · intro i x hi
    by_cases hlt : i < ms.length
    · rw [List.getElem?_append_left hlt] at hi
      have := key _ _ (h.nd i x hi)
      simpa [addC, Nat.ne_of_lt hlt] using this
    · rw [List.getElem?_append_right (by omega)] at hi
      cases hd : i - ms.length with
      | zero =>
        rw [hd] at hi
        simp at hi
        subst hi
        have : i = ms.length := by omega
        subst this
        simpa [addC] using key _ _ hm
      | succ z => rw [hd] at hi; simp at hi
  · intro g hg
    rcases hw g hg with h1 | h1
    · exact h.own g h1
    · exact ⟨by omega, by omega⟩
theorem ClRow.list {w0 w : World} {B : Nat} {c : Nat → Nat → Value} {v : Value} {ms : List Nd} {Q : Nat → Prop} (h : ClRow w0 w B c v ms) (h1 : ∀ b, Lu w0 w B v b → Q b) (h2 : ∀ g, v.ownBlock = some g → Unf w g → Q g) : (ms = [] ∧ ∃ a c, v = .slice a 0 c) ∨ ∃ g o c, v = .slice (some ⟨g, o, none⟩) ms.length c ∧ (Q g ∧ IsC w g) ∧ NdsV w Q g o ms := by
  rcases h.row.2 with ⟨e, h0⟩ | ⟨g, cap, cur, e, _, hh, _, _, _, ht⟩
  · exact Or.inl ⟨List.eq_nil_of_length_eq_zero h0, none, 0, e⟩
  · refine Or.inr ⟨g, 0, cap, e, ⟨h2 g (by rw [e]; rfl) ⟨_, _, hh⟩, _, _, _, hh⟩, nds_of ms 0 fun i x hi => ?_⟩
    have hil : i < ms.length := (List.getElem?_eq_some_iff.1 hi).1
    have cl : ∀ j, j < 6 → w.cell? ⟨g, 0 + i * 6 + j, none⟩ = some (c i j) := fun j hj => by
      rw [cell_of hh]
      have := cellsN_at c hil hj
      rw [← ht, List.getElem?_take] at this
      split at this
      · simpa using this
      · cases this
    exact ⟨_, _, _, _, _, _, cl 0 (by omega), cl 1 (by omega), cl 2 (by omega), cl 3 (by omega), cl 4 (by omega), cl 5 (by omega), (h.nd i x hi).mono fun b hb _ => h1 b hb⟩
structure ClI (w w9 : World) (bn : Nat) (op so nn mm : Int) (na : Option Addr) (nl nc : Nat) (l : List Nd) (j : Nat) (wr : World) : Prop where
  up : Upto [bn] w9 wr
  old : Upto [] w wr
  st : ∃ (va : Option Addr) (vn vc : Nat) (c : Nat → Nat → Value), wr.heap[bn]? = some (.cells #[.int .i64 op, .slice na nl nc, .int .i64 so, .int .i64 nn, .int .i64 mm, .slice va vn vc] 34 (0, 0)) ∧ ClRow w9 wr bn c (.slice va vn vc) (l.take j)
theorem ClI.ext {w w9 wr w2 : World} {bn : Nat} {op so nn mm : Int} {na : Option Addr} {nl nc : Nat} {l : List Nd} {j : Nat} (h : ClI w w9 bn op so nn mm na nl nc l j wr) (hu : Upto [] wr w2) : ClI w w9 bn op so nn mm na nl nc l j w2 := by
  obtain ⟨va, vn, vc, c, h1, h2⟩ := h.st
  exact ⟨h.up.trans_ext hu, h.old.trans_ext hu, va, vn, vc, c, hu.at h1 (by simp), h2.upto hu (by simp)⟩
theorem cl_step {w w9 wr w10 w5 : World} {bn : Nat} {op so nn mm : Int} {na : Option Addr} {nl nc : Nat} {l : List Nd} {vn : Nat} {va : Option Addr} {vc : Nat} {c : Nat → Nat → Value} {x : Nd} {v0 v1 v2 v3 v4 v5 : Value} {b5 : Option Addr} {c5 : Nat}
    (HI : ClI w w9 bn op so nn mm na nl nc l vn wr) (HLT : w.heap.size ≤ bn ∧ bn < w9.heap.size)
    (hbk : wr.heap[bn]? = some (.cells #[.int .i64 op, .slice na nl nc, .int .i64 so, .int .i64 nn, .int .i64 mm, .slice va vn vc] 34 (0, 0))) (hrow : ClRow w9 wr bn c (.slice va vn vc) (l.take vn))
    (hu : Upto [] wr w10) (hn : NdV w10 (Nu wr w10) x (.agg #[v0, v1, v2, v3, v4, v5])) (hjl : (l.take vn).length = vn) (htk : l.take (vn + 1) = l.take vn ++ [x])
    (ho5 : w5.ownsRow 0 34 6 (.slice b5 (vn + 1) c5) (vn + 1) (cellsN c vn ++ [v0, v1, v2, v3, v4, v5])) (hu5 : Upto (Value.slice va vn vc).ownBlock.toList w10 w5) (hw5 : ∀ g, (Value.slice b5 (vn + 1) c5).ownBlock = some g → (Value.slice va vn vc).ownBlock = some g ∨ w10.heap.size ≤ g) :
    w5.heap[bn]? = some (.cells #[.int .i64 op, .slice na nl nc, .int .i64 so, .int .i64 nn, .int .i64 mm, .slice va vn vc] 34 (0, 0)) ∧ ClI w w9 bn op so nn mm na nl nc l (vn + 1) (w5.setCell ⟨bn, 5, none⟩ (.slice b5 (vn + 1) c5)) := by
  have hown : ∀ g, g ∈ (Value.slice va vn vc).ownBlock.toList → w9.heap.size ≤ g ∧ g ≠ bn := fun g hg => hrow.own g (Option.mem_toList.1 hg)
  have hold : ∀ g, (Value.slice va vn vc).ownBlock = some g → g < wr.heap.size := fun g hg => by
    obtain ⟨cur, hh⟩ := ownsRow_block hrow.row hg
    exact lt_of_heap hh
  have hb5 := hu5.at (hu.at hbk (by simp)) (fun hm => (hown _ hm).2 rfl)
  have hst : Upto [bn] w5 (w5.setCell ⟨bn, 5, none⟩ (.slice b5 (vn + 1) c5)) := (Upto.refl [bn] w5).setCell (p := ⟨bn, 5, none⟩) (Or.inl (by simp)) _
  have hs9 := HI.up.size
  have hs10 := hu.size
  have hbw := lt_of_heap hbk
  refine ⟨hb5, ⟨?_, ?_, b5, vn + 1, c5, addC c vn v0 v1 v2 v3 v4 v5, ?_, ?_⟩⟩
  · exact ((HI.up.trans_ext hu).trans hu5 (fun k hk => Or.inr (hown k hk).1)).setCell (p := ⟨bn, 5, none⟩) (Or.inl (by simp)) _
  · exact ((HI.old.trans_ext hu).trans hu5 (fun k hk => Or.inr (by have := (hown k hk).1; omega))).setCell (p := ⟨bn, 5, none⟩) (Or.inr (by simp; omega)) _
  · have := set_same hb5 5 (.slice b5 (vn + 1) c5)
    simpa using this
  · have happ := ClRow.app (m := x) (v0 := v0) (v1 := v1) (v2 := v2) (v3 := v3) (v4 := v4) (v5 := v5) (b' := b5) (c' := c5) (w5 := w5) (hrow.upto hu (by simp)) (by omega) (by omega)
      (hn.mono (fun b hb _ => ⟨⟨by have := hb.1; unfold New at this ⊢; omega, by have := hb.1; unfold New at this; omega, fun e => by have := hold b e; have := hb.1; unfold New at this; omega⟩, hb.2⟩)) (by rw [hjl]; exact ho5) hu5 (by rw [hjl]; exact hw5)
    rw [hjl] at happ
    rw [htk]
    exact happ.upto hst (fun k hk => Or.inr (by simpa using hk))
theorem cl_end {w w9 wr : World} {bn : Nat} {op so nn mm : Int} {na : Option Addr} {nc : Nat} {names : List (List UInt8)} {l : List Nd} {vn : Nat} {va : Option Addr} {vc : Nat} {c : Nat → Nat → Value}
    (HI : ClI w w9 bn op so nn mm na names.length nc l vn wr) (HLT : w.heap.size = bn ∧ bn + 1 < w9.heap.size)
    (hsl : SlP w9 (fun b => Nu w w9 b ∧ b ≠ bn ∧ b ≠ bn + 1) (.slice na names.length nc) names.length (names.map sV))
    (hrow : ClRow w9 wr bn c (.slice va vn vc) (l.take vn)) (htk : l.take vn = l) (hll : l.length = vn) :
    ClPost w (.mk op names so nn mm l) (.returned (.agg #[.int .i64 op, .slice na names.length nc, .int .i64 so, .int .i64 nn, .int .i64 mm, .slice va vn vc])) ((((((wr.setCell ⟨w.heap.size + 1, 0, none⟩ (.int .i64 op)).setCell ⟨w.heap.size + 1, 1, none⟩ (.slice na names.length nc)).setCell ⟨w.heap.size + 1, 2, none⟩ (.int .i64 so)).setCell ⟨w.heap.size + 1, 3, none⟩ (.int .i64 nn)).setCell ⟨w.heap.size + 1, 4, none⟩ (.int .i64 mm)).setCell ⟨w.heap.size + 1, 5, none⟩ (.slice va vn vc)) := by
  have hst := nd_self wr (w.heap.size + 1) (.int .i64 op) (.slice na names.length nc) (.int .i64 so) (.int .i64 nn) (.int .i64 mm) (.slice va vn vc)
  have hrow2 := hrow.upto hst (fun k hk => Or.inl (by simp at hk; omega))
  rw [htk] at hrow2
  obtain ⟨wE, hE⟩ : ∃ wE, wE = ((((((wr.setCell ⟨w.heap.size + 1, 0, none⟩ (.int .i64 op)).setCell ⟨w.heap.size + 1, 1, none⟩ (.slice na names.length nc)).setCell ⟨w.heap.size + 1, 2, none⟩ (.int .i64 so)).setCell ⟨w.heap.size + 1, 3, none⟩ (.int .i64 nn)).setCell ⟨w.heap.size + 1, 4, none⟩ (.int .i64 mm)).setCell ⟨w.heap.size + 1, 5, none⟩ (.slice va vn vc)) := ⟨_, rfl⟩
  have hup : Upto [] w wE := by rw [hE]; exact nd_up HI.old (Or.inr (by omega)) ..
  rw [← hE] at hst hrow2 ⊢
  have hu9 : Upto [bn, bn + 1] w9 wE := (HI.up.mono (by simp)).trans (hst.mono (by simp; omega)) (fun k hk => Or.inl hk)
  have hs2 : SlP wE (Nu w wE) (.slice na names.length nc) names.length (names.map sV) := hsl.keep ⟨hu9.size, fun b hb hl => by
    have he := hu9.block b hl.lt (by simp; exact hb.2)
    exact ⟨⟨hb.1.1, hb.1.2.stay he⟩, he⟩⟩
  refine ⟨_, rfl, ?_, hup⟩
  unfold NdV
  refine ⟨_, _, rfl, hs2, ?_⟩
  rw [← hll]
  have := hrow2.list (Q := Nu w wE) (fun b hb => ⟨by have := hb.1.1; unfold New at this ⊢; omega, hb.2⟩) (fun g hg hf => ⟨by have := (hrow.own g hg).1; unfold New; omega, hf⟩)
  rw [hll] at this ⊢
  exact this
def Lk (u x : Value) : Prop := (∃ s s', u = .string s ∧ x = .string s') ∨ (∃ i j, u = .int .i64 i ∧ x = .int .i64 j) ∨ x = u
theorem Lk.int {i : Int} {x : Value} (h : Lk (.int .i64 i) x) : ∃ j, x = .int .i64 j := by
  rcases h with ⟨s, s', h1, -⟩ | ⟨a, b, -, h2⟩ | h
  · cases h1
  · exact ⟨b, h2⟩
  · exact ⟨i, h⟩
theorem Lk.slice {a : Option Addr} {n c : Nat} {x : Value} (h : Lk (.slice a n c) x) : x = .slice a n c := by
  rcases h with ⟨s, s', h1, -⟩ | ⟨a, b, h1, -⟩ | h
  · cases h1
  · cases h1
  · exact h
structure Mk (S : List Nat) (w0 w : World) : Prop where
  up : Upto S w0 w
  blk : ∀ b ∈ S, ∀ cs t, w0.heap[b]? = some (.cells cs t (0, 0)) → ∃ cs', w.heap[b]? = some (.cells cs' t (0, 0)) ∧ ∀ (j : Nat) u, cs[j]? = some u → ∃ x, cs'[j]? = some x ∧ Lk u x
theorem Mk.refl (S : List Nat) (w : World) : Mk S w w := ⟨Upto.refl _ _, fun _ _ cs _ h => ⟨cs, h, fun _ u hu => ⟨u, hu, Or.inr (Or.inr rfl)⟩⟩⟩
theorem Mk.ext {S : List Nat} {w0 w w' : World} (h : Mk S w0 w) (hu : Upto [] w w') : Mk S w0 w' := ⟨h.up.trans_ext hu, fun b hb cs t hc => by
  obtain ⟨cs', h1, h2⟩ := h.blk b hb cs t hc
  exact ⟨cs', hu.at h1 (by simp), h2⟩⟩
theorem Mk.get {S : List Nat} {w0 w : World} (h : Mk S w0 w) {b i : Nat} {u : Value} (hb : b ∈ S ∧ Unf w0 b) (hc : w0.cell? ⟨b, i, none⟩ = some u) : ∃ x, w.cell? ⟨b, i, none⟩ = some x ∧ w.frozen? ⟨b, i, none⟩ = false ∧ Lk u x := by
  obtain ⟨hs, cs, t, hh⟩ := hb
  rw [cell_of hh] at hc
  obtain ⟨cs', h1, h2⟩ := h.blk b hs cs t hh
  obtain ⟨x, hx1, hx2⟩ := h2 i u hc
  exact ⟨x, by rw [cell_of h1]; exact hx1, free_of h1 i, hx2⟩
theorem Mk.set {S : List Nat} {w0 w : World} (h : Mk S w0 w) {b i : Nat} {u x : Value} (hb : b ∈ S) (hc : w0.cell? ⟨b, i, none⟩ = some u) (hx : Lk u x) : Mk S w0 (w.setCell ⟨b, i, none⟩ x) := by
  refine ⟨h.up.setCell (p := ⟨b, i, none⟩) (Or.inl hb) x, fun b' hb' cs t hh => ?_⟩
  obtain ⟨cs', h1, h2⟩ := h.blk b' hb' cs t hh
  by_cases e : b' = b
  · subst e
    refine ⟨cs'.setIfInBounds i x, set_same h1 i x, fun j u' hj => ?_⟩
    obtain ⟨y, hy1, hy2⟩ := h2 j u' hj
    by_cases ej : i = j
    · subst ej
      rw [cell_of hh, hj] at hc
      cases hc
      have hlt := (Array.getElem?_eq_some_iff.1 hy1).1
      exact ⟨x, by rw [Array.getElem?_setIfInBounds_self_of_lt hlt], hx⟩
    · exact ⟨y, by rw [Array.getElem?_setIfInBounds_ne ej]; exact hy1, hy2⟩
  · exact ⟨cs', set_other h1 e i x, h2⟩
def LsP (w : World) (P : Nat → Prop) (a : Option Addr) (l : List Nd) : Prop := ∀ i x, l[i]? = some x → ∃ (g o : Nat) (xo : Int) (xn1 : Option Addr) (xn2 xn3 : Nat) (xs xm xq : Int) (xl1 : Option Addr) (xl2 xl3 : Nat), a = some ⟨g, o, none⟩ ∧ P g ∧ w.cell? ⟨g, o + i * 6, none⟩ = some (.int .i64 xo) ∧ w.cell? ⟨g, o + i * 6 + 1, none⟩ = some (.slice xn1 xn2 xn3) ∧ w.cell? ⟨g, o + i * 6 + 2, none⟩ = some (.int .i64 xs) ∧ w.cell? ⟨g, o + i * 6 + 3, none⟩ = some (.int .i64 xm) ∧ w.cell? ⟨g, o + i * 6 + 4, none⟩ = some (.int .i64 xq) ∧ w.cell? ⟨g, o + i * 6 + 5, none⟩ = some (.slice xl1 xl2 xl3) ∧ NdV w P x (.agg #[.int .i64 xo, .slice xn1 xn2 xn3, .int .i64 xs, .int .i64 xm, .int .i64 xq, .slice xl1 xl2 xl3])
theorem NdV.openP {w : World} {P : Nat → Prop} {op so n m : Int} {names : List (List UInt8)} {l : List Nd} {v : Value} (h : NdV w P (.mk op names so n m l) v) : ∃ a1 c1 a2 c2, v = .agg #[.int .i64 op, .slice a1 names.length c1, .int .i64 so, .int .i64 n, .int .i64 m, .slice a2 l.length c2] ∧ SlP w P (.slice a1 names.length c1) names.length (names.map sV) ∧ LsP w P a2 l := by
  unfold NdV at h
  obtain ⟨vn, vl, rfl, h1, h2⟩ := h
  obtain ⟨n1, n3, rfl⟩ := h1.len
  rcases h2 with ⟨rfl, a, c, rfl⟩ | ⟨g, o, c, rfl, hg, h3⟩
  · exact ⟨n1, n3, a, c, rfl, h1, fun i x h => by simp at h⟩
  · refine ⟨n1, n3, _, c, rfl, h1, fun i x hi => ?_⟩
    obtain ⟨v0, v1, v2, v3, v4, v5, c0, c1, c2, c3, c4, c5, hn⟩ := h3.get l o i x hi
    obtain ⟨xo, xn1, xn2, xn3, xs, xm, xq, xl1, xl2, xl3, hs⟩ := hn.six
    simp only [Value.agg.injEq, Array.mk.injEq, List.cons.injEq, and_true] at hs
    obtain ⟨rfl, rfl, rfl, rfl, rfl, rfl⟩ := hs
    exact ⟨g, o, xo, xn1, xn2, xn3, xs, xm, xq, xl1, xl2, xl3, rfl, hg.1, c0, c1, c2, c3, c4, c5, hn⟩
def SpPost (S : List Nat) (w0 w : World) (e : Ending) (w' : World) : Prop := e = .returned (.tuple #[]) ∧ Mk S w0 w' ∧ Upto S w w'
set_option maxRecDepth 100000 in
set_option maxHeartbeats 6400000 in
theorem spoil_calls (S : List Nat) (w0 : World) (s : ByteArray) (hS : ∀ b ∈ S, b < w0.heap.size) : ∀ (k : Nat) (nd : Nd), sizeF nd ≤ k → k ≤ 10000000 → bigN nd → ∀ (qo qs qn qm : Int) (a1 : Option Addr) (n1 c1 : Nat) (a2 : Option Addr) (n2 c2 : Nat) (op so nn mm : Int) (w : World), NdV w0 (fun b => b ∈ S ∧ Unf w0 b) nd (.agg #[.int .i64 qo, .slice a1 n1 c1, .int .i64 qs, .int .i64 qn, .int .i64 qm, .slice a2 n2 c2]) → Mk S w0 w → Calls Tryz.prog 30 #[.agg #[.int .i64 op, .slice a1 n1 c1, .int .i64 so, .int .i64 nn, .int .i64 mm, .slice a2 n2 c2], .string s] w (SpPost S w0 w)
  | 0, nd, hk, _, _, _, _, _, _, _, _, _, _, _, _, _, _, _, _, _, _, _ => by have := sizeF_pos nd; omega
  | k + 1, .mk qo' names qs' qn' qm' l, hk, hk7, hbg, qo, qs, qn, qm, a1, n1, c1, a2, n2, c2, op, so, nn, mm, w, h, hm => by
    obtain ⟨b1, d1, b2, d2, hv, hs, hls⟩ := h.openP
    simp only [Value.agg.injEq, Array.mk.injEq, List.cons.injEq, Value.slice.injEq, and_true] at hv
    obtain ⟨-, ⟨rfl, rfl, rfl⟩, -, -, -, ⟨rfl, rfl, rfl⟩⟩ := hv
    unfold bigN at hbg
    have hsz : sizesF l ≤ k := by simp only [sizeF] at hk; omega
    have hln := sizes_len l
    have hu1 : Upto [] w (w.alloc (.cells #[.int .i64 op, .slice a1 names.length c1, .int .i64 so, .int .i64 nn, .int .i64 mm, .slice a2 l.length c2] 34)) := (Upto.refl [] w).alloc _
    have hb1 := new_at w (.cells #[.int .i64 op, .slice a1 names.length c1, .int .i64 so, .int .i64 nn, .int .i64 mm, .slice a2 l.length c2] 34)
    obtain ⟨W, hW⟩ : ∃ W, W = w.alloc (.cells #[.int .i64 op, .slice a1 names.length c1, .int .i64 so, .int .i64 nn, .int .i64 mm, .slice a2 l.length c2] 34) := ⟨_, rfl⟩
    rw [← hW] at hu1 hb1
    have HB1 := Lib.hid hb1
    have hwS : w.heap.size ∉ S := fun hc => by have := hS _ hc; have := hm.up.size; omega
    have HWS := Lib.hid hwS
    have HM0 : Hid (Mk S w0 W ∧ Upto S W W) := Lib.hid ⟨hm.ext hu1, Upto.refl _ _⟩
    have HU1 := Lib.hid hu1
    have HNM : Hid (∀ j, j < names.length → ∃ g o y, a1 = some ⟨g, o, none⟩ ∧ (g ∈ S ∧ Unf w0 g) ∧ w0.cell? ⟨g, o + j, none⟩ = some (.string y)) := Lib.hid (fun j hj => by
      rcases hs with ⟨h0, -⟩ | ⟨g, o, c, e, ⟨hg, -⟩, hc⟩
      · omega
      · simp only [Value.slice.injEq] at e
        exact ⟨g, o, _, e.1, hg, hc j (sV names[j]) (by simp [hj])⟩)
    have HLS := Lib.hid hls
    have HBG := Lib.hid hbg
    have HSZ := Lib.hid hsz
    have HK7 := Lib.hid hk7
    have HL7 : Hid (l.length ≤ 10000000) := Lib.hid (by omega)
    clear hs hls h hm hu1 hwS
    go_enter Tryz.func30, Tryz.ntmps30
    go_wp2_with fail
    simp only [← hW]
    clear hW hb1
    generalize hnl : names.length = nl at *
    generalize hll : l.length = ll at *
    have HLL := Lib.hid hll
    have hN1 : (nl : Int) ≤ 10000000 := by have := HBG.out.1; omega
    have hL1 : (ll : Int) ≤ 10000000 := by have := HL7.out; omega
    clear hll hnl hbg hsz hln hk hk7
    go_loopw [4] (fun v wr => ∃ j : Nat, j ≤ nl ∧ v = .int .i64 j ∧ Hid (Mk S w0 wr ∧ Upto S W wr)) (fun v _ => nl - (intOf v).toNat)
    case atStart => exact ⟨0, by omega, rfl, HM0⟩
    case round =>
      obtain ⟨j, hj, rfl, HI⟩ := hrel
      have hbox := HI.out.2.at HB1.out HWS.out
      obtain ⟨x0, x1, x2, x3, x4, x5⟩ := cells6 hbox
      clear hbox
      have hj0 : (0 : Int) ≤ j := by omega
      rcases Nat.lt_or_ge j nl with hlt | hge
      · obtain ⟨g, o, y, rfl, hg, hc⟩ := HNM.out j hlt
        obtain ⟨x, hx1, hx2, -⟩ := HI.out.1.get hg hc
        have HI5 : Hid (Mk S w0 (wr.setCell ⟨g, o + j, none⟩ (.string s)) ∧ Upto S W (wr.setCell ⟨g, o + j, none⟩ (.string s))) := Lib.hid ⟨HI.out.1.set hg.1 hc (Or.inl ⟨y, s, rfl, rfl⟩), HI.out.2.setCell (p := ⟨g, o + j, none⟩) (Or.inl hg.1) _⟩
        have hltI : (j : Int) < nl := by omega
        clear hg hc
        go_wp2_with fail
        go_roundw
        case rel => exact ⟨j + 1, by omega, by go_num, HI5⟩
        case measure => simp [intOf]; omega
      · obtain rfl : j = nl := by omega
        have hgeI : ¬ ((j : Int) < j) := by omega
        go_wp2_with fail
        clear x0 x1 x2 x3 x4 x5
        go_loopw [5] (fun v wr => ∃ i : Nat, i ≤ ll ∧ v = .int .i64 i ∧ Hid (Mk S w0 wr ∧ Upto S W wr)) (fun v _ => ll - (intOf v).toNat)
        case atStart => exact ⟨0, by omega, rfl, HI⟩
        case round =>
          obtain ⟨i, hi, rfl, HJ⟩ := hrel
          have hbox := HJ.out.2.at HB1.out HWS.out
          obtain ⟨y0, y1, y2, y3, y4, y5⟩ := cells6 hbox
          clear hbox
          have hi0 : (0 : Int) ≤ i := by omega
          rcases Nat.lt_or_ge i ll with hlt | hge
          · obtain ⟨x, hx⟩ : ∃ x, l[i]? = some x := ⟨_, List.getElem?_eq_getElem (by have := HLL.out; omega)⟩
            obtain ⟨g, o, xo, xn1, xn2, xn3, xs, xm, xq, xl1, xl2, xl3, rfl, hg, c0, c1', c2', c3, c4, c5, hn⟩ := HLS.out i x hx
            have hxs := sizesF_mem (List.mem_of_getElem? hx)
            obtain ⟨_, z0, -, hk0⟩ := HJ.out.1.get hg c0
            obtain ⟨jo, rfl⟩ := hk0.int
            obtain ⟨_, z1, -, hk1⟩ := HJ.out.1.get hg c1'
            obtain rfl := hk1.slice
            obtain ⟨_, z2, -, hk2⟩ := HJ.out.1.get hg c2'
            obtain ⟨js, rfl⟩ := hk2.int
            obtain ⟨_, z3, -, hk3⟩ := HJ.out.1.get hg c3
            obtain ⟨jm, rfl⟩ := hk3.int
            obtain ⟨_, z4, -, hk4⟩ := HJ.out.1.get hg c4
            obtain ⟨jq, rfl⟩ := hk4.int
            obtain ⟨_, z5, -, hk5⟩ := HJ.out.1.get hg c5
            obtain rfl := hk5.slice
            have HC := Lib.hid (spoil_calls S w0 s hS k x (by have := HSZ.out; omega) (by have := HK7.out; omega) (bigs_mem HBG.out.2 (List.mem_of_getElem? hx)) xo xs xm xq xn1 xn2 xn3 xl1 xl2 xl3 jo js jm jq wr hn HJ.out.1)
            have HG := Lib.hid (And.intro hg c0)
            have hltI : (i : Int) < ll := by omega
            clear hg c0 c1' c2' c3 c4 c5 hn hx hxs hk0 hk1 hk2 hk3 hk4 hk5
            go_wp2_with fail
            refine HC.out.mono ?_
            rintro e w7 ⟨rfl, hm7, hu7⟩
            have HJ7 : Hid (Mk S w0 w7 ∧ Upto S W w7) := Lib.hid ⟨hm7, HJ.out.2.trans_same hu7⟩
            have hbox := HJ7.out.2.at HB1.out HWS.out
            clear y0 y1 y2 y3 y4 y5 z0 z1 z2 z3 z4 z5
            obtain ⟨u0, u1, u2, u3, u4, u5⟩ := cells6 hbox
            obtain ⟨x, hx1, hx2, -⟩ := HJ7.out.1.get HG.out.1 HG.out.2
            have HI5 : Hid (Mk S w0 (w7.setCell ⟨g, o + i * 6, none⟩ (.int .i64 77)) ∧ Upto S W (w7.setCell ⟨g, o + i * 6, none⟩ (.int .i64 77))) := Lib.hid ⟨HJ7.out.1.set HG.out.1.1 HG.out.2 (Or.inr (Or.inl ⟨_, _, rfl, rfl⟩)), HJ7.out.2.setCell (p := ⟨g, o + i * 6, none⟩) (Or.inl HG.out.1.1) _⟩
            clear hbox hm7 hu7
            go_wp2_with fail
            go_roundw
            case rel => exact ⟨i + 1, by omega, by go_num, HI5⟩
            case measure => simp [intOf]; omega
          · obtain rfl : i = ll := by omega
            have hgeI2 : ¬ ((i : Int) < i) := by omega
            go_wp2_with fail
            exact bodyPost_end (v := .tuple #[]) (by simp [results, Tryz.results30, go_sem]) rfl ⟨rfl, HJ.out.1, (HU1.out.mono (by simp)).trans_same HJ.out.2⟩
set_option maxRecDepth 100000 in
set_option maxHeartbeats 6400000 in
theorem fclone_calls : ∀ (k : Nat) (nd : Nd), sizeF nd ≤ k → k ≤ 10000000 → bigN nd → ∀ (P : Nat → Prop) (v : Value) (w : World), NdV w P nd v → Calls Tryz.prog 29 #[v] w (ClPost w nd)
  | 0, nd, hk, _, _, _, _, _, _ => by have := sizeF_pos nd; omega
  | k + 1, .mk op names so nn mm l, hk, hk7, hbg, P, v, w, h => by
    obtain ⟨a1, c1, a2, c2, rfl, hs, hls⟩ := h.open
    unfold bigN at hbg
    have hsz : sizesF l ≤ k := by simp only [sizeF] at hk; omega
    have hln := sizes_len l
    have hu2 : Upto [] w ((w.alloc (.cells #[.int .i64 op, .slice a1 names.length c1, .int .i64 so, .int .i64 nn, .int .i64 mm, .slice a2 l.length c2] 34)).alloc (.cells #[.int .i64 0, .slice none 0 0, .int .i64 0, .int .i64 0, .int .i64 0, .slice none 0 0] 34)) := ((Upto.refl [] w).alloc _).alloc _
    have hb1 := alloc_old (new_at w (.cells #[.int .i64 op, .slice a1 names.length c1, .int .i64 so, .int .i64 nn, .int .i64 mm, .slice a2 l.length c2] 34)) (.cells #[.int .i64 0, .slice none 0 0, .int .i64 0, .int .i64 0, .int .i64 0, .slice none 0 0] 34)
    have hb2 := new_at1 w (.cells #[.int .i64 op, .slice a1 names.length c1, .int .i64 so, .int .i64 nn, .int .i64 mm, .slice a2 l.length c2] 34) (.cells #[.int .i64 0, .slice none 0 0, .int .i64 0, .int .i64 0, .int .i64 0, .slice none 0 0] 34)
    obtain ⟨W, hW⟩ : ∃ W, W = ((w.alloc (.cells #[.int .i64 op, .slice a1 names.length c1, .int .i64 so, .int .i64 nn, .int .i64 mm, .slice a2 l.length c2] 34)).alloc (.cells #[.int .i64 0, .slice none 0 0, .int .i64 0, .int .i64 0, .int .i64 0, .slice none 0 0] 34)) := ⟨_, rfl⟩
    rw [← hW] at hu2 hb1 hb2
    have HU2 := Lib.hid hu2
    have HB1 := Lib.hid hb1
    have HB2 := Lib.hid hb2
    have HCL := Lib.hid (fun W2 (hu : Upto [] W W2) => sclone_calls (names.map sV) a1 names.length c1 W2 P (by simp) hbg.1 (by intro u hu; obtain ⟨x, _, rfl⟩ := List.mem_map.1 hu; rfl) ((hs.ext hu2).ext hu))
    obtain ⟨x0, x1, x2, x3, x4, x5⟩ := cells6 hb1
    have hwl : w.heap.size + 1 < W.heap.size := lt_of_heap hb2
    have HWL := Lib.hid hwl
    clear hs h hu2 hb1 hb2
    go_enter Tryz.func29, Tryz.ntmps29
    go_wp2_with fail
    simp only [← hW]
    clear hW x0 x1 x2 x3 x4 x5
    refine (HCL.out W (Upto.refl [] W)).mono ?_
    rintro e w9 ⟨na, nc, rfl, hsl, hu9⟩
    have hc1 := hu9.at HB1.out (by simp)
    have hc2 := hu9.at HB2.out (by simp)
    have HUP := Lib.hid hu9
    have HC2 := Lib.hid hc2
    have HSL : Hid (SlP w9 (fun b => Nu w w9 b ∧ b ≠ w.heap.size ∧ b ≠ w.heap.size + 1) (.slice na names.length nc) names.length (names.map sV)) := Lib.hid (hsl.mono (fun b hb _ => ⟨⟨by have := hb.1; unfold New at this ⊢; omega, hb.2⟩, by have := hb.1; unfold New at this; omega, by have := hb.1; unfold New at this; omega⟩))
    have HLT : Hid (w.heap.size = w.heap.size ∧ w.heap.size + 1 < w9.heap.size) := Lib.hid ⟨rfl, lt_of_heap hc2⟩
    obtain ⟨n0, n1, n2, n3, n4, n5⟩ := cells6 hc1
    obtain ⟨f0, f1, f2, f3, f4, f5⟩ := frees6 hc1
    have hset := set_same (set_same hc1 1 (.slice na names.length nc)) 5 (.slice none 0 0)
    simp only [List.setIfInBounds_toArray, List.set_cons_zero, List.set_cons_succ] at hset
    have HI0 : Hid (ClI w w9 w.heap.size op so nn mm na names.length nc l 0 ((w9.setCell ⟨w.heap.size, 1, none⟩ (.slice na names.length nc)).setCell ⟨w.heap.size, 5, none⟩ (.slice none 0 0))) := Lib.hid
      ⟨((Upto.refl [w.heap.size] w9).setCell (p := ⟨w.heap.size, 1, none⟩) (Or.inl (by simp)) _).setCell (p := ⟨w.heap.size, 5, none⟩) (Or.inl (by simp)) _,
       (((HU2.out.trans_ext hu9).setCell (p := ⟨w.heap.size, 1, none⟩) (Or.inr (by simp)) _).setCell (p := ⟨w.heap.size, 5, none⟩) (Or.inr (by simp)) _), none, 0, 0, fun _ _ => undef, hset, ⟨by simpa [cellsN] using World.ownsRow_nil _ 0 34 6, by simp, by intro g hg; cases hg⟩⟩
    clear hsl hu9 hc1 hc2 hset
    have HLS := Lib.hid hls
    have HLN : Hid (l.length ≤ 10000000) := Lib.hid (by omega)
    clear hls
    go_wp2_with fail
    generalize hll : l.length = ll at *
    have HLL := Lib.hid hll
    have hL0 : (0 : Int) ≤ ll := by omega
    have hL1 : (ll : Int) ≤ 10000000 := by have := HLN.out; omega
    clear hll n0 n1 n2 n3 n4 n5 f0 f1 f2 f3 f4 f5
    go_loopw [15] (fun v wr => ∃ j : Nat, j ≤ ll ∧ v = .int .i64 j ∧ Hid (ClI w w9 w.heap.size op so nn mm na names.length nc l j wr)) (fun v _ => ll - (intOf v).toNat)
    case atStart => exact ⟨0, by omega, rfl, HI0⟩
    case round =>
      obtain ⟨j, hj, rfl, HI⟩ := hrel
      obtain ⟨va, vn, vc, c, hbk, hrow⟩ := HI.out.st
      obtain ⟨va', vc', hve, -⟩ := ownsRow_len hrow.row
      simp only [Value.slice.injEq] at hve
      have hvn : vn = j := by have := HLL.out; rw [hve.2.1, List.length_take]; omega
      clear hve
      subst hvn
      rcases Nat.lt_or_ge vn ll with hlt | hge
      · obtain ⟨x, hx⟩ : ∃ x, l[vn]? = some x := ⟨_, List.getElem?_eq_getElem (by have := HLL.out; omega)⟩
        obtain ⟨g, o, xo, xn1, xn2, xn3, xs, xm, xq, xl1, xl2, xl3, rfl, c0, c1', c2', c3, c4, c5, hn⟩ := (HLS.out.ext HI.out.old) vn x hx
        have hjl : (l.take vn).length = vn := by have := HLL.out; rw [List.length_take]; omega
        have HJL := Lib.hid hjl
        have HTK : Hid (l.take (vn + 1) = l.take vn ++ [x]) := Lib.hid (by
          obtain ⟨hi, rfl⟩ := List.getElem?_eq_some_iff.1 hx
          exact List.take_succ_eq_append_getElem hi)
        have hxs := sizesF_mem (List.mem_of_getElem? hx)
        have hu7 : Upto [] wr (wr.alloc (.cells #[.int .i64 xo, .slice xn1 xn2 xn3, .int .i64 xs, .int .i64 xm, .int .i64 xq, .slice xl1 xl2 xl3] 34)) := (Upto.refl [] wr).alloc _
        have hb7 := new_at wr (.cells #[.int .i64 xo, .slice xn1 xn2 xn3, .int .i64 xs, .int .i64 xm, .int .i64 xq, .slice xl1 xl2 xl3] 34)
        obtain ⟨W7, hW7⟩ : ∃ W7, W7 = wr.alloc (.cells #[.int .i64 xo, .slice xn1 xn2 xn3, .int .i64 xs, .int .i64 xm, .int .i64 xq, .slice xl1 xl2 xl3] 34) := ⟨_, rfl⟩
        rw [← hW7] at hu7 hb7
        have HI7 := Lib.hid (HI.out.ext hu7)
        have hbk7 := hu7.at hbk (by simp)
        have HBK := Lib.hid hbk7
        have HROW := Lib.hid (hrow.upto hu7 (by simp))
        have HC := Lib.hid (fun w1 (hu : Upto [] W7 w1) => fclone_calls k x (by omega) (by omega) (bigs_mem hbg.2 (List.mem_of_getElem? hx)) P _ w1 ((hn.ext hu7).ext hu))
        have HB7 := Lib.hid hb7
        have hltI : (vn : Int) < ll := by omega
        have hj0 : (0 : Int) ≤ vn := by omega
        clear hrow hbk hn hx hu7 hb7 hbk7
        go_wp2_with fail
        simp only [← hW7]
        clear hW7
        have y5 := cell_of HBK.out 5
        simp only [List.getElem?_toArray, List.getElem?_cons_zero, List.getElem?_cons_succ] at y5
        obtain ⟨z0, z1, z2, z3, z4, z5⟩ := cells6 HB7.out
        have e0 : ∀ u : Ext W7, u.w.cell? ⟨w.heap.size, 5, none⟩ = some (.slice va vn vc) := fun u => u.cell y5
        have k0 : ∀ u : Ext W7, u.w.cell? ⟨wr.heap.size, 0, none⟩ = some _ := fun u => u.cell z0
        have k1 : ∀ u : Ext W7, u.w.cell? ⟨wr.heap.size, 1, none⟩ = some _ := fun u => u.cell z1
        have k2 : ∀ u : Ext W7, u.w.cell? ⟨wr.heap.size, 2, none⟩ = some _ := fun u => u.cell z2
        have k3 : ∀ u : Ext W7, u.w.cell? ⟨wr.heap.size, 3, none⟩ = some _ := fun u => u.cell z3
        have k4 : ∀ u : Ext W7, u.w.cell? ⟨wr.heap.size, 4, none⟩ = some _ := fun u => u.cell z4
        have k5 : ∀ u : Ext W7, u.w.cell? ⟨wr.heap.size, 5, none⟩ = some _ := fun u => u.cell z5
        clear y5 z0 z1 z2 z3 z4 z5 c0 c1' c2' c3 c4 c5
        refine wp_region_seg_at [3, 4] [] [0, 1, 2, 3, 4] [5, 6, 7] 5 (by kernel_rfl) (by kernel_rfl) (by kernel_rfl) ?_
        iterate 3 (refine seg_plain rfl rfl rfl rfl rfl ?_; intro K' hK'; go_big_quiet_op; go_big_quiet_on)
        refine seg_callO (Y := (Int × Option Addr × Nat × Nat) × Int × Int × Int × Option Addr × Nat × Nat) (fun y => .agg #[.int .i64 y.1.1, .slice y.1.2.1 y.1.2.2.1 y.1.2.2.2, .int .i64 y.2.1, .int .i64 y.2.2.1, .int .i64 y.2.2.2.1, .slice y.2.2.2.2.1 y.2.2.2.2.2.1 y.2.2.2.2.2.2]) (fun y u => NdV u (Nu W7 u) x (.agg #[.int .i64 y.1.1, .slice y.1.2.1 y.1.2.2.1 y.1.2.2.2, .int .i64 y.2.1, .int .i64 y.2.2.1, .int .i64 y.2.2.2.1, .slice y.2.2.2.2.1 y.2.2.2.2.2.1 y.2.2.2.2.2.2])) (fun _ => []) rfl rfl rfl rfl (fun _ _ _ h hu => h.nu hu) (fun _ => List.nodup_nil) (fun w => by go_simp) (fun w' hu hd => (HC.out w' hu).mono fun e w2 ⟨v, h1, h2, h3⟩ => by
          obtain ⟨ro, rn1, rn2, rn3, rs, rm, rq, rl1, rl2, rl3, rfl⟩ := h2.six
          exact ⟨((ro, rn1, rn2, rn3), rs, rm, rq, rl1, rl2, rl3), h1, h3, h2.mono (fun b hb _ => ⟨New.mono hu b hb.1, hb.2⟩), fun b hb => by cases hb⟩) ?_
        rintro ⟨⟨ro, rn1, rn2, rn3⟩, rs, rm, rq, rl1, rl2, rl3⟩
        simp only [Act.put, List.setIfInBounds_toArray, List.set_cons_zero, List.set_cons_succ]
        refine seg_opq (Y := Nat) (fun b => .slice (some ⟨b, 0, none⟩) 1 1) (fun b u => u.heap[b]? = some (.cells #[.int .i64 ro, .slice rn1 rn2 rn3, .int .i64 rs, .int .i64 rm, .int .i64 rq, .slice rl1 rl2 rl3] 34 (0, 0))) (fun _ => []) rfl rfl rfl rfl (fun _ _ _ h hu => hu.at h (by simp)) (fun _ => List.nodup_nil) (fun w' post hu hd hp => (congrArg (opqUpon Tryz.prog post) (show _ = Result.ok (Next.value (.slice (some ⟨w'.heap.size, 0, none⟩) 1 1)) (w'.alloc (.cells #[.int .i64 ro, .slice rn1 rn2 rn3, .int .i64 rs, .int .i64 rm, .int .i64 rq, .slice rl1 rl2 rl3] 34)) from by go_simp)).mpr (hp w'.heap.size _ ((Upto.refl [] w').alloc _) (new_at _ _) (fun b hb => by cases hb))) ?_
        intro b8
        simp only [Act.put, List.setIfInBounds_toArray, List.set_cons_zero, List.set_cons_succ]
        intro w10 hg
        have HU10 := Lib.hid hg.up
        have HB8 : Hid (w10.heap[b8]? = some (.cells #[.int .i64 ro, .slice rn1 rn2 rn3, .int .i64 rs, .int .i64 rm, .int .i64 rq, .slice rl1 rl2 rl3] 34 (0, 0))) := Lib.hid hg.hold.1
        have HND : Hid (NdV w10 (Nu W7 w10) x (.agg #[.int .i64 ro, .slice rn1 rn2 rn3, .int .i64 rs, .int .i64 rm, .int .i64 rq, .slice rl1 rl2 rl3])) := Lib.hid hg.hold.2.1
        simp only [List.drop_succ_cons, List.drop_zero]
        clear hg e0 k0 k1 k2 k3 k4 k5
        have HR10 := Lib.hid (HROW.out.upto HU10.out (by simp))
        have hr10 := HR10.out.row
        rw [hjl] at hr10
        have HRR := Lib.hid hr10
        obtain ⟨i1, hi1, hy0, hy1, hy2⟩ := info59'
        have hL7 := HLN.out
        have HA := Lib.hid (fun b5 c5 w5 (ho5 : w5.ownsRow 0 34 6 (.slice b5 (vn + 1) c5) (vn + 1) (cellsN c vn ++ [.int .i64 ro, .slice rn1 rn2 rn3, .int .i64 rs, .int .i64 rm, .int .i64 rq, .slice rl1 rl2 rl3])) (hu5 : Upto (Value.slice va vn vc).ownBlock.toList w10 w5) (hw5 : ∀ g, (Value.slice b5 (vn + 1) c5).ownBlock = some g → (Value.slice va vn vc).ownBlock = some g ∨ w10.heap.size ≤ g) => cl_step HI7.out ⟨Nat.le_refl _, by have := HLT.out.2; omega⟩ HBK.out HROW.out HU10.out HND.out HJL.out HTK.out ho5 hu5 hw5)
        clear hr10 hjl
        go_wp2_with (at_builtin
                     refine wpList_app _ rfl (.tmp 20) (.tmp 23) 32 rfl 34 i1 (.agg #[.int .i64 0, .slice none 0 0, .int .i64 0, .int .i64 0, .int .i64 0, .slice none 0 0]) 6 80 Tryz.underlying32 hi1 hy0 hy1 hy2 rfl (by decide) (.slice va vn vc) vn (cellsN c vn) rfl HRR.out ⟨b8, 0, none⟩ 1 1 [.int .i64 ro, .slice rn1 rn2 rn3, .int .i64 rs, .int .i64 rm, .int .i64 rq, .slice rl1 rl2 rl3] rfl rfl (six_at HB8.out) (by simp [Value.oneCell']) (by unfold maxLen; omega) (by omega) ?_
                     intro b5 c5 w5 ho5 hu5 hw5
                     obtain ⟨hbk5, hI5⟩ := HA.out b5 c5 w5 ho5 hu5 hw5
                     have y5 := cell_of hbk5 5
                     have g5 := free_of hbk5 5
                     simp only [List.getElem?_toArray, List.getElem?_cons_zero, List.getElem?_cons_succ] at y5
                     have HI5 := Lib.hid hI5
                     clear ho5 hu5 hw5 hbk5 hI5)
        go_roundw
        case rel => exact ⟨vn + 1, by omega, by go_num, HI5⟩
        case measure => simp [intOf]; omega
      · obtain rfl : vn = ll := by omega
        have hgeI : ¬ ((vn : Int) < vn) := by omega
        have HROW := Lib.hid hrow
        have hz2 := HI.out.up.at HC2.out (by simp)
        have HZ2 := Lib.hid hz2
        obtain ⟨p0, p1, p2, p3, p4, p5⟩ := cells6 hbk
        obtain ⟨r0, r1, r2, r3, r4, r5⟩ := cells6 hz2
        obtain ⟨t0, t1, t2, t3, t4, t5⟩ := frees6 hz2
        have hF := cl_end (names := names) HI.out ⟨rfl, HLT.out.2⟩ HSL.out HROW.out (List.take_of_length_le (by have := HLL.out; omega)) HLL.out
        have HF := Lib.hid hF
        clear hrow hbk hz2 hF
        go_wp2_with fail
        have hst := nd_store HZ2.out (.int .i64 op) (.slice na names.length nc) (.int .i64 so) (.int .i64 nn) (.int .i64 mm) (.slice va vn vc)
        obtain ⟨q0, q1, q2, q3, q4, q5⟩ := cells6 hst
        exact bodyPost_ret (v := .agg #[.int .i64 op, .slice na names.length nc, .int .i64 so, .int .i64 nn, .int .i64 mm, .slice va vn vc]) (by simp [results, Tryz.results29, go_sem, q0, q1, q2, q3, q4, q5]) rfl HF.out
end Go.Proofs.YtkhbpebpljdifaaGreatDoor
