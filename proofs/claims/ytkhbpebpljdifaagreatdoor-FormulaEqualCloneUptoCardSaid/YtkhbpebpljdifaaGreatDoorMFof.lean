/- Texts merged, in build order: Fm26, Fm30, Z6, Fm27, Fm34, Fm35. -/
import Derived.Test.YtkhbpebpljdifaaGreatDoorMFoe
namespace Go.Proofs.YtkhbpebpljdifaaGreatDoor
open Go.RowKit Go.PL Go.Maps
def readF (qp : List Tok → Option (Qn × PS)) (x : List UInt8) : PR :=
  match lexT x with
  | .error (a, b, c) => ⟨.zero, a, b, c⟩
  | .ok ts => match qp ts with
    | some (q, s') => endF ts q s'
    | none => ⟨.zero, 0, 0, 0⟩
def PRPost (w : World) (r : PR) (e : Ending) (w' : World) : Prop :=
  ∃ v, e = .returned (.tuple #[v, .agg #[.int .i64 r.line, .int .i64 r.col], .int .i64 r.er]) ∧ QnV w' (New w) r.q v ∧ Upto [] w w'
theorem PRPost.drew {w w' : World} {r : PR} {e : Ending} (h : PRPost w r e w') : PRPost w r e w'.drew := by
  obtain ⟨v, he, hq, hu⟩ := h
  exact ⟨v, he, QnV.keep (w := w') (w' := w'.drew) ⟨Nat.le_refl _, fun b hb _ => ⟨hb, rfl⟩⟩ hq, hu.drew⟩
theorem p_store {w : World} {B : Nat} {x0 x1 : Value} {T : TypeId} (h : w.heap[B]? = some (.cells #[x0, x1] T (0, 0))) (a b : Value) : ((w.setCell ⟨B, 0, none⟩ a).setCell ⟨B, 1, none⟩ b).heap[B]? = some (.cells #[a, b] T (0, 0)) := by
  have := set_same (set_same h 0 a) 1 b
  simpa using this
theorem prpost_fin {w W : World} {Bq Bp : Nat} {r : PR} {q : Qn} {P : Nat → Prop} {a b c d e f g x0 x1 x2 x3 x4 x5 x6 y0 y1 l1 c1 : Value} {li ci ei : Int} (hu : Upto [] w W) (hBq : w.heap.size ≤ Bq) (hBp : w.heap.size ≤ Bp) (hne : Bq ≠ Bp) (hq : QnV W P q (.agg #[a, b, c, d, e, f, g]))
    (hP : ∀ b, P b → IsC W b → New w b ∧ b ≠ Bq ∧ b ≠ Bp) (hz : W.heap[Bq]? = some (.cells #[x0, x1, x2, x3, x4, x5, x6] 48 (0, 0))) (hy : W.heap[Bp]? = some (.cells #[y0, y1] 36 (0, 0))) (hl : l1 = .int .i64 li) (hc : c1 = .int .i64 ci) (hr : r.q = q ∧ (r.line : Int) = li ∧ (r.col : Int) = ci ∧ (r.er : Int) = ei) :
    PRPost w r (.returned (.tuple #[.agg #[a, b, c, d, e, f, g], .agg #[l1, c1], .int .i64 ei])) (((((((((W.setCell ⟨Bq, 0, none⟩ a).setCell ⟨Bq, 1, none⟩ b).setCell ⟨Bq, 2, none⟩ c).setCell ⟨Bq, 3, none⟩ d).setCell ⟨Bq, 4, none⟩ e).setCell ⟨Bq, 5, none⟩ f).setCell ⟨Bq, 6, none⟩ g).setCell ⟨Bp, 0, none⟩ l1).setCell ⟨Bp, 1, none⟩ c1) ∧
    (((((((((W.setCell ⟨Bq, 0, none⟩ a).setCell ⟨Bq, 1, none⟩ b).setCell ⟨Bq, 2, none⟩ c).setCell ⟨Bq, 3, none⟩ d).setCell ⟨Bq, 4, none⟩ e).setCell ⟨Bq, 5, none⟩ f).setCell ⟨Bq, 6, none⟩ g).setCell ⟨Bp, 0, none⟩ l1).setCell ⟨Bp, 1, none⟩ c1).heap[Bq]? = some (.cells #[a, b, c, d, e, f, g] 48 (0, 0)) ∧ (((((((((W.setCell ⟨Bq, 0, none⟩ a).setCell ⟨Bq, 1, none⟩ b).setCell ⟨Bq, 2, none⟩ c).setCell ⟨Bq, 3, none⟩ d).setCell ⟨Bq, 4, none⟩ e).setCell ⟨Bq, 5, none⟩ f).setCell ⟨Bq, 6, none⟩ g).setCell ⟨Bp, 0, none⟩ l1).setCell ⟨Bp, 1, none⟩ c1).heap[Bp]? = some (.cells #[l1, c1] 36 (0, 0)) := by
  have h7 := q_store hz a b c d e f g
  have u7 := q_self W Bq a b c d e f g
  have hy7 := u7.at hy (by simp; omega)
  have u2 : Upto [Bp] (((((((W.setCell ⟨Bq, 0, none⟩ a).setCell ⟨Bq, 1, none⟩ b).setCell ⟨Bq, 2, none⟩ c).setCell ⟨Bq, 3, none⟩ d).setCell ⟨Bq, 4, none⟩ e).setCell ⟨Bq, 5, none⟩ f).setCell ⟨Bq, 6, none⟩ g) (((((((((W.setCell ⟨Bq, 0, none⟩ a).setCell ⟨Bq, 1, none⟩ b).setCell ⟨Bq, 2, none⟩ c).setCell ⟨Bq, 3, none⟩ d).setCell ⟨Bq, 4, none⟩ e).setCell ⟨Bq, 5, none⟩ f).setCell ⟨Bq, 6, none⟩ g).setCell ⟨Bp, 0, none⟩ l1).setCell ⟨Bp, 1, none⟩ c1) := ((Upto.refl _ _).setCell (Or.inl (by simp)) _).setCell (Or.inl (by simp)) _
  have h2 := p_store hy7 l1 c1
  have hsz := u7.size
  obtain ⟨rfl, rfl, rfl, rfl⟩ := hr
  subst hl hc
  refine ⟨⟨_, rfl, hq.keep ⟨Nat.le_trans u7.size u2.size, fun b hb hl => ?_⟩, ((q_up hu (Or.inr hBq) a b c d e f g).setCell (Or.inr (by simpa using hBp)) _).setCell (Or.inr (by simpa using hBp)) _⟩, u2.at h7 (by simpa using hne), h2⟩
  obtain ⟨k1, k2, k3⟩ := hP b hb hl
  exact ⟨k1, (u2.block b (Nat.lt_of_lt_of_le hl.lt u7.size) (by simpa using k3)).trans (u7.block b hl.lt (by simpa using k2))⟩
theorem text_le_sum {l : List Tok} {t : Tok} (h : t ∈ l) : t.text.length ≤ (l.map fun t => t.text.length).sum := by
  induction l with
  | nil => cases h
  | cons a l ih =>
    rw [List.map_cons, List.sum_cons]
    rcases List.mem_cons.1 h with rfl | h
    · omega
    · have := ih h
      omega
set_option maxRecDepth 100000 in
set_option maxHeartbeats 12800000 in
theorem read_calls (x : List UInt8) (hl : x.length ≤ 281474976710656) (k : FuncId) (qp : List Tok → Option (Qn × PS)) (w : World) (he : Env w) (hs : SEnv w) (hk : ∀ args w, (callFunc k args).run Tryz.prog w = .ok (.enter k args) w)
    (hq : ∀ l, Fin l → 0 < l.length → ∃ q s', qp l = some (q, s') ∧ Adv l ⟨0, 0, 0⟩ s' ∧ sizeF q.body ≤ 2 * l.length + 1)
    (hby : ∀ w p l q s', (∀ t ∈ l, t.text.length ≤ 65536) → Cx w p l → RdAt w p l ⟨0, 0, 0⟩ → qp l = some (q, s') → Calls Tryz.prog k #[.pointer (some ⟨p, 0, none⟩)] w (QPost w p l ⟨0, 0, 0⟩ q s')) :
    Calls Tryz.prog 56 #[.string ⟨x.toArray⟩, .func (.func k) #[] #[]] w (PRPost w (readF qp x)) := by
  have hu0 : Upto [] w ((w.alloc (.cells #[.slice none 0 0, .int .i64 0, .slice none 0 0, .int .i64 0, .int .i64 0, .int .i64 0, .slice none 0 0] 48)).alloc (.cells #[.int .i64 0, .int .i64 0] 36)) := ((Upto.refl [] w).alloc _).alloc _
  have HU0 := Lib.hid hu0
  have HBQ : Hid (((w.alloc (.cells #[.slice none 0 0, .int .i64 0, .slice none 0 0, .int .i64 0, .int .i64 0, .int .i64 0, .slice none 0 0] 48)).alloc (.cells #[.int .i64 0, .int .i64 0] 36)).heap[w.heap.size]? = some (.cells #[.slice none 0 0, .int .i64 0, .slice none 0 0, .int .i64 0, .int .i64 0, .int .i64 0, .slice none 0 0] 48 (0, 0))) := Lib.hid (alloc_old (new_at _ _) _)
  have HBP : Hid (((w.alloc (.cells #[.slice none 0 0, .int .i64 0, .slice none 0 0, .int .i64 0, .int .i64 0, .int .i64 0, .slice none 0 0] 48)).alloc (.cells #[.int .i64 0, .int .i64 0] 36)).heap[w.heap.size + 1]? = some (.cells #[.int .i64 0, .int .i64 0] 36 (0, 0))) := Lib.hid (new_at1 _ _ _)
  have HS := Lib.hid hs
  have hen := he.ext hu0
  cases hx : lexT x with
  | error r =>
    obtain ⟨a, b, c⟩ := r
    have HC := Lib.hid (tok_err hx hl a b c rfl rfl rfl _ hen)
    have hc0 := lexT_err hx
    have HR : Hid (readF qp x = ⟨.zero, a, b, c⟩) := Lib.hid (by unfold readF; rw [hx])
    have k1 : ((c : Int) != 0) = true := by rw [bne, show ((c : Int) == 0) = false by rw [beq_eq_false_iff_ne]; omega]; rfl
    clear hx hc0 hen he hs hq hby hu0
    go_enter Tryz.func56, Tryz.ntmps56
    go_wp2_with fail
    refine HC.out.mono ?_
    rintro e w2 ⟨rfl, hu2⟩
    have HSZ : Hid (w.heap.size < w2.heap.size ∧ w.heap.size + 1 < w2.heap.size) := Lib.hid ⟨lt_of_heap (hu2.at HBQ.out (by simp)), lt_of_heap (hu2.at HBP.out (by simp))⟩
    have hua := ((Upto.refl [] w2).alloc (.cells #[.int .i64 a, .int .i64 b] 36))
    have hbq := hua.at (hu2.at HBQ.out (by simp)) (by simp)
    have hbp := hua.at (hu2.at HBP.out (by simp)) (by simp)
    have hat : ((w2.alloc (.cells #[.int .i64 a, .int .i64 b] 36))).heap[w2.heap.size]? = some (.cells #[.int .i64 a, .int .i64 b] 36 (0, 0)) := new_at _ _
    obtain ⟨z0, z1, z2, z3, z4, z5, z6⟩ := cells7 hbq
    obtain ⟨y0, y1, y2, y3, y4, y5, y6⟩ := frees7 hbq
    obtain ⟨d0, d1⟩ := cells2 hbp
    obtain ⟨f0, f1⟩ := frees2 hbp
    obtain ⟨h0, h1⟩ := cells2 hat
    obtain ⟨i0, i1⟩ := frees2 hat
    have hbqd := ((Upto.refl [] _).drew).at hbq (by simp)
    obtain ⟨zz0, zz1, zz2, zz3, zz4, zz5, zz6⟩ := cells7 hbqd
    obtain ⟨yy0, yy1, yy2, yy3, yy4, yy5, yy6⟩ := frees7 hbqd
    clear hbqd
    have hbpd := ((Upto.refl [] _).drew).at hbp (by simp)
    obtain ⟨dd0, dd1⟩ := cells2 hbpd
    obtain ⟨ff0, ff1⟩ := frees2 hbpd
    clear hbpd
    have hatd := ((Upto.refl [] _).drew).at hat (by simp)
    obtain ⟨hh0, hh1⟩ := cells2 hatd
    obtain ⟨ii0, ii1⟩ := frees2 hatd
    clear hatd
    have n1 : w.heap.size ≠ w2.heap.size := by have := HSZ.out; omega
    have n2 : w.heap.size + 1 ≠ w2.heap.size := by have := HSZ.out; omega
    have n3 : w2.heap.size ≠ w.heap.size := n1.symm
    have n4 : w2.heap.size ≠ w.heap.size + 1 := n2.symm
    have HF := Lib.hid (prpost_fin (q := .zero) (r := readF qp x) (P := fun _ => False) (li := a) (ci := b) (ei := c) ((HU0.out.trans_ext hu2).trans_ext hua) (Nat.le_refl _) (by omega : w.heap.size ≤ w.heap.size + 1) (by omega) (QnV.zero _ _) (fun b hb => hb.elim) hbq hbp rfl rfl (by rw [HR.out]; exact ⟨rfl, rfl, rfl, rfl⟩))
    clear hua hbq hbp hat hu2
    go_wp2_with fail
    go_region
    all_goals (
      go_wp2_with fail
      have hb7 := ((Upto.refl [] _).drew).at HF.out.2.1 (by simp)
      have hb2 := ((Upto.refl [] _).drew).at HF.out.2.2 (by simp)
      have q0 := cell_of hb7 0
      have q1 := cell_of hb7 1
      have q2 := cell_of hb7 2
      have q3 := cell_of hb7 3
      have q4 := cell_of hb7 4
      have q5 := cell_of hb7 5
      have q6 := cell_of hb7 6
      have p0 := cell_of hb2 0
      have p1 := cell_of hb2 1
      simp only [List.getElem?_toArray, List.getElem?_cons_zero, List.getElem?_cons_succ] at q0 q1 q2 q3 q4 q5 q6 p0 p1
      exact bodyPost_ret (v := .tuple #[.agg #[.slice none 0 0, .int .i64 0, .slice none 0 0, .int .i64 0, .int .i64 0, .int .i64 0, .slice none 0 0], .agg #[.int .i64 a, .int .i64 b], .int .i64 c]) (by simp [results, Tryz.results56, go_sem, q0, q1, q2, q3, q4, q5, q6, p0, p1]) rfl HF.out.1.drew)
  | ok ts =>
    have HC := Lib.hid (tok_ok hx hl _ hen)
    obtain ⟨hf, h0, hlen1, hlen2, hsum, -, -⟩ := lexT_fin hx
    obtain ⟨q, s', hqp, had, hsz⟩ := hq ts hf h0
    have htx : ∀ t ∈ ts, t.text.length ≤ 65536 := fun t ht => by have := text_le_sum ht; omega
    have HRF : Hid (readF qp x = endF ts q s') := Lib.hid (by unfold readF; rw [hx]; simp only; rw [hqp])
    have HQS : Hid (sizeF q.body ≤ 10000000) := Lib.hid (by omega)
    have HFI := Lib.hid hf
    have HBY := Lib.hid (fun w p (hX : Cx w p ts) (hR : RdAt w p ts ⟨0, 0, 0⟩) => hby w p ts q s' htx hX hR hqp)
    have HLN := Lib.hid (And.intro h0 (show ts.length ≤ 1000000 by omega))
    obtain ⟨tk, tx, tv, tl, tc, hT⟩ : ∃ tk tx tv tl tc, tkAt ts s' = ⟨tk, tx, tv, tl, tc⟩ := ⟨_, _, _, _, _, rfl⟩
    have HTK := Lib.hid hT
    have hfd : ∀ u, (Instr.field 83 (.agg #[.int .i64 tk, .string ⟨tx.toArray⟩, .int .i64 tv, .int .i64 tl, .int .i64 tc]) 0).run Tryz.prog u = .ok (.int .i64 tk) u := fun _ => by kernel_rfl
    have hfp : ∀ u, (Instr.field 83 (.agg #[.int .i64 tk, .string ⟨tx.toArray⟩, .int .i64 tv, .int .i64 tl, .int .i64 tc]) 3).run Tryz.prog u = .ok (.agg #[.int .i64 tl, .int .i64 tc]) u := fun _ => by kernel_rfl
    clear hx hen he hs hq hby hu0 hf h0 hlen1 hlen2 hsum hqp had hsz htx hT
    by_cases h1 : tk = 0
    · have k1 : ((tk : Int) != 0) = false := by rw [bne, show ((tk : Int) == 0) = true by simp [h1]]; rfl
      have HS1 : Hid (readF qp x = if s'.er = 0 then (if greatF q.body = 0 then ⟨q, 0, 0, 0⟩ else ⟨.zero, 0, 0, greatF q.body⟩) else ⟨.zero, tl, tc, s'.er⟩) := Lib.hid (by rw [HRF.out]; unfold endF; simp only [HTK.out, h1, if_true])
      obtain ⟨s1, hs1, hnx1⟩ : ∃ s1, s1 = s' ∧ s1.nx = s'.nx := ⟨s', rfl, rfl⟩
      clear h1
      rw [← hs1] at HS1
      have HT1 : Hid (tkAt ts s1 = ⟨tk, tx, tv, tl, tc⟩) := Lib.hid (by have h := HTK.out; unfold tkAt at h ⊢; rw [hnx1]; exact h)
      have HSE := Lib.hid hs1
      clear hs1 hnx1
      by_cases h2 : s1.er = 0
      · have k2 : ((s1.er : Int) != 0) = false := by rw [bne, show ((s1.er : Int) == 0) = true by simp [h2]]; rfl
        by_cases h3 : greatF q.body = 0
        · have k3 : ((greatF q.body : Int) != 0) = false := by rw [bne, show ((greatF q.body : Int) == 0) = true by simp [h3]]; rfl
          have HR : Hid (readF qp x = ⟨q, 0, 0, 0⟩) := Lib.hid (by rw [HS1.out, if_pos h2, if_pos h3])
          clear h2 h3
          go_enter Tryz.func56, Tryz.ntmps56
          go_wp2_with fail
          refine HC.out.mono ?_
          rintro e w2 ⟨tvv, rfl, hTv, hu2⟩
          obtain ⟨ta, tcap, rfl⟩ := hTv.len
          have HTV := Lib.hid hTv
          have HU2 := Lib.hid hu2
          clear hTv hu2
          go_wp2_with fail
          obtain ⟨W4, p, hW4, hpp, hR4, hU4, hX4, hq4, hp4, hord⟩ : ∃ W4 p, W4 = (w2.alloc (.cells #[.int .i64 0, .int .i64 0] 36)).alloc (.cells #[.slice ta ts.length tcap, .int .i64 0, .int .i64 0, .int .i64 0] 129) ∧ p = w2.heap.size + 1 ∧ RdAt W4 p ts ⟨0, 0, 0⟩ ∧ Upto [] w W4 ∧ Cx W4 p ts ∧ W4.heap[w.heap.size]? = some (.cells #[.slice none 0 0, .int .i64 0, .slice none 0 0, .int .i64 0, .int .i64 0, .int .i64 0, .slice none 0 0] 48 (0, 0)) ∧ W4.heap[w.heap.size + 1]? = some (.cells #[.int .i64 0, .int .i64 0] 36 (0, 0)) ∧ (w.heap.size + 1 < p) := by
            have ub := ((Upto.refl [] w2).alloc (.cells #[.int .i64 0, .int .i64 0] 36)).alloc (.cells #[.slice ta ts.length tcap, .int .i64 0, .int .i64 0, .int .i64 0] 129)
            have hb2 := HU2.out.at HBP.out (by simp)
            have h2 := lt_of_heap hb2
            have h22 := World.block_lt_of_cell? w _ HS.out.c0
            have h23 := HU0.out.size
            refine ⟨_, _, rfl, rfl, ⟨⟨_, new_at1 _ _ _, HTV.out.ext ub, ?_⟩, HLN.out.1, HFI.out⟩, (HU0.out.trans_ext HU2.out).trans_ext ub, ⟨HS.out.upto ((HU0.out.trans_ext HU2.out).trans_ext ub) (by simp), by simp at h22 h23; omega, HLN.out.2⟩, ub.at (HU2.out.at HBQ.out (by simp)) (by simp), ub.at hb2 (by simp), by omega⟩
            intro g o n c e
            rcases HTV.out.at with ⟨h0, _⟩ | ⟨g', o', c', e', hat⟩
            · have := HLN.out.1; rw [h0] at this; simp at this
            · rw [e'] at e
              simp at e
              obtain ⟨⟨rfl, rfl⟩, -, -⟩ := e
              obtain ⟨tt, ht⟩ : ∃ tt, ts[0]? = some tt := ⟨_, List.getElem?_eq_getElem HLN.out.1⟩
              have := World.block_lt_of_cell? w2 _ (hat _ _ ht).1
              simp at this
              omega
          rw [← hW4, ← hpp]
          have HR4 := Lib.hid hR4
          have HU4 := Lib.hid hU4
          have HX4 := Lib.hid hX4
          have HQ4 := Lib.hid hq4
          have HP4 := Lib.hid hp4
          have HO := Lib.hid hord
          clear hW4 hpp hR4 hU4 hX4 hq4 hp4 hord
          refine (HBY.out W4 p HX4.out HR4.out).mono ?_
          rintro e w5 ⟨vv, rfl, hqn, hR5, hu5, ha5⟩
          obtain ⟨g1, g2, g3, oa, na1, na2, na3, sa, ma, qa, la1, la2, la3, rfl⟩ := hqn.seven
          have hua := (Upto.refl [] w5).alloc (.cells #[.slice g1 g2 g3, .int .i64 oa, .slice na1 na2 na3, .int .i64 sa, .int .i64 ma, .int .i64 qa, .slice la1 la2 la3] 48)
          have HQN := Lib.hid (hqn.keep (Keep.upto (S := []) hua (by simp)))
          have HR5 := Lib.hid (hR5.ext hua)
          have HU5 := Lib.hid (hu5.trans_ext hua)
          have HQ5 := Lib.hid ((hu5.trans_ext hua).at HQ4.out (by have := HO.out; simp; omega))
          have HP5 := Lib.hid ((hu5.trans_ext hua).at HP4.out (by have := HO.out; simp; omega))
          have HT5 : Hid ((w5.alloc (.cells #[.slice g1 g2 g3, .int .i64 oa, .slice na1 na2 na3, .int .i64 sa, .int .i64 ma, .int .i64 qa, .slice la1 la2 la3] 48)).heap[w5.heap.size]? = some (.cells #[.slice g1 g2 g3, .int .i64 oa, .slice na1 na2 na3, .int .i64 sa, .int .i64 ma, .int .i64 qa, .slice la1 la2 la3] 48 (0, 0))) := Lib.hid (new_at _ _)
          have HZ5 := Lib.hid (And.intro (Nat.lt_of_lt_of_le HR4.out.lt hu5.size) (And.intro hu5.size HR4.out.lt))
          have HN := Lib.hid (next_calls _ p ts s' HR5.out)
          clear hqn hR5 hu5 ha5 hua
          go_wp2_with fail
          refine HN.out.mono ?_
          rintro e w6 ⟨rfl, hu6⟩
          rw [HTK.out]
          unfold tkA
          obtain ⟨w7, hw7⟩ : ∃ w7, w7 = w6 := ⟨_, rfl⟩
          rw [← hw7] at hu6 ⊢
          have HR7 : Hid (RdAt w7 p ts s1) := Lib.hid (by rw [HSE.out]; exact HR5.out.ext hu6)
          have HUX := Lib.hid (hu6.mono (S' := [p]) (by simp))
          clear hu6 HN hw7
          have HU7 := Lib.hid (HU5.out.trans_same HUX.out)
          have HQ7 := Lib.hid (HUX.out.at HQ5.out (by have := HO.out; simp; omega))
          have HP7 := Lib.hid (HUX.out.at HP5.out (by have := HO.out; simp; omega))
          have HT7 := Lib.hid (HUX.out.at HT5.out (by have := HZ5.out; simp; omega))
          have HQN7 : Hid (QnV w7 (New W4) q (.agg #[.slice g1 g2 g3, .int .i64 oa, .slice na1 na2 na3, .int .i64 sa, .int .i64 ma, .int .i64 qa, .slice la1 la2 la3])) := Lib.hid (HQN.out.keep (Keep.upto HUX.out (fun b hb _ => by have := HZ5.out; unfold New at hb; simp; omega)))
          have HUW : Hid (Upto [] w w7) := Lib.hid (HU4.out.trans HU7.out (fun k hk => Or.inr (by simp at hk; have := HO.out; omega)))
          obtain ⟨⟨vr, hb7, -, -⟩, -, -⟩ := id HR7.out
          have b2 := cell_of hb7 2
          unfold rdC at b2
          simp only [List.getElem?_toArray, List.getElem?_cons_zero, List.getElem?_cons_succ] at b2
          clear hb7
          have ht7 := HT7.out
          obtain ⟨t0, t1, t2, t3, t4, t5, t6⟩ := cells7 ht7
          obtain ⟨u0, u1, u2, u3, u4, u5, u6⟩ := frees7 ht7
          obtain ⟨vf, a0, a1, a2, a3, a4, a5, eqn, hfv, hnv⟩ := HQN7.out
          simp only [Value.agg.injEq, Array.mk.injEq, List.cons.injEq, and_true] at eqn
          obtain ⟨rfl, rfl, rfl, rfl, rfl, rfl, rfl⟩ := eqn
          have HG := Lib.hid (great_calls q.body _ w7 _ hnv HQS.out)
          clear ht7 hfv hnv
          go_wp2_with fail
          refine HG.out.mono ?_
          clear t0 t1 t2 t3 t4 t5 t6 u0 u1 u2 u3 u4 u5 u6
          rintro e w8 ⟨rfl, hu8⟩
          have hbq := hu8.at HQ7.out (by simp)
          have hbp := hu8.at HP7.out (by simp)
          have hbt := hu8.at HT7.out (by simp)
          obtain ⟨t0, t1, t2, t3, t4, t5, t6⟩ := cells7 hbt
          obtain ⟨u0, u1, u2, u3, u4, u5, u6⟩ := frees7 hbt
          have HTN := Lib.hid (show w5.heap.size ≠ w.heap.size ∧ w5.heap.size ≠ w.heap.size + 1 by have := HZ5.out; have := HO.out; omega)
          have HF := Lib.hid (prpost_fin (q := q) (r := readF qp x) (P := New W4) (li := 0) (ci := 0) (ei := 0) (HUW.out.trans_ext hu8) (Nat.le_refl _) (by omega : w.heap.size ≤ w.heap.size + 1) (by omega) (HQN7.out.keep (Keep.upto (S := []) hu8 (by simp))) (fun b hb _ => by have h1 := HZ5.out; have h2 := HO.out; unfold New at hb ⊢; omega) hbq hbp rfl rfl (by rw [HR.out]; exact ⟨rfl, rfl, rfl, rfl⟩))
          obtain ⟨z0, z1, z2, z3, z4, z5, z6⟩ := cells7 hbq
          obtain ⟨y0, y1, y2, y3, y4, y5, y6⟩ := frees7 hbq
          obtain ⟨d0, d1⟩ := cells2 hbp
          obtain ⟨f0, f1⟩ := frees2 hbp
          clear hbq hbp hu8
          go_wp2_with fail
          have hb7 := HF.out.2.1
          have hb2 := HF.out.2.2
          have q0 := cell_of hb7 0
          have q1 := cell_of hb7 1
          have q2 := cell_of hb7 2
          have q3 := cell_of hb7 3
          have q4 := cell_of hb7 4
          have q5 := cell_of hb7 5
          have q6 := cell_of hb7 6
          have p0 := cell_of hb2 0
          have p1 := cell_of hb2 1
          simp only [List.getElem?_toArray, List.getElem?_cons_zero, List.getElem?_cons_succ] at q0 q1 q2 q3 q4 q5 q6 p0 p1
          exact bodyPost_ret (v := .tuple #[.agg #[.slice g1 g2 g3, .int .i64 oa, .slice na1 na2 na3, .int .i64 sa, .int .i64 ma, .int .i64 qa, .slice la1 la2 la3], .agg #[.int .i64 0, .int .i64 0], .int .i64 0]) (by simp [results, Tryz.results56, go_sem, q0, q1, q2, q3, q4, q5, q6, p0, p1]) rfl HF.out.1
        · have k3 : ((greatF q.body : Int) != 0) = true := by rw [bne, show ((greatF q.body : Int) == 0) = false by rw [beq_eq_false_iff_ne]; omega]; rfl
          have HR : Hid (readF qp x = ⟨.zero, 0, 0, greatF q.body⟩) := Lib.hid (by rw [HS1.out, if_pos h2, if_neg h3])
          clear h2 h3
          go_enter Tryz.func56, Tryz.ntmps56
          go_wp2_with fail
          refine HC.out.mono ?_
          rintro e w2 ⟨tvv, rfl, hTv, hu2⟩
          obtain ⟨ta, tcap, rfl⟩ := hTv.len
          have HTV := Lib.hid hTv
          have HU2 := Lib.hid hu2
          clear hTv hu2
          go_wp2_with fail
          obtain ⟨W4, p, hW4, hpp, hR4, hU4, hX4, hq4, hp4, hord⟩ : ∃ W4 p, W4 = (w2.alloc (.cells #[.int .i64 0, .int .i64 0] 36)).alloc (.cells #[.slice ta ts.length tcap, .int .i64 0, .int .i64 0, .int .i64 0] 129) ∧ p = w2.heap.size + 1 ∧ RdAt W4 p ts ⟨0, 0, 0⟩ ∧ Upto [] w W4 ∧ Cx W4 p ts ∧ W4.heap[w.heap.size]? = some (.cells #[.slice none 0 0, .int .i64 0, .slice none 0 0, .int .i64 0, .int .i64 0, .int .i64 0, .slice none 0 0] 48 (0, 0)) ∧ W4.heap[w.heap.size + 1]? = some (.cells #[.int .i64 0, .int .i64 0] 36 (0, 0)) ∧ (w.heap.size + 1 < p) := by
            have ub := ((Upto.refl [] w2).alloc (.cells #[.int .i64 0, .int .i64 0] 36)).alloc (.cells #[.slice ta ts.length tcap, .int .i64 0, .int .i64 0, .int .i64 0] 129)
            have hb2 := HU2.out.at HBP.out (by simp)
            have h2 := lt_of_heap hb2
            have h22 := World.block_lt_of_cell? w _ HS.out.c0
            have h23 := HU0.out.size
            refine ⟨_, _, rfl, rfl, ⟨⟨_, new_at1 _ _ _, HTV.out.ext ub, ?_⟩, HLN.out.1, HFI.out⟩, (HU0.out.trans_ext HU2.out).trans_ext ub, ⟨HS.out.upto ((HU0.out.trans_ext HU2.out).trans_ext ub) (by simp), by simp at h22 h23; omega, HLN.out.2⟩, ub.at (HU2.out.at HBQ.out (by simp)) (by simp), ub.at hb2 (by simp), by omega⟩
            intro g o n c e
            rcases HTV.out.at with ⟨h0, _⟩ | ⟨g', o', c', e', hat⟩
            · have := HLN.out.1; rw [h0] at this; simp at this
            · rw [e'] at e
              simp at e
              obtain ⟨⟨rfl, rfl⟩, -, -⟩ := e
              obtain ⟨tt, ht⟩ : ∃ tt, ts[0]? = some tt := ⟨_, List.getElem?_eq_getElem HLN.out.1⟩
              have := World.block_lt_of_cell? w2 _ (hat _ _ ht).1
              simp at this
              omega
          rw [← hW4, ← hpp]
          have HR4 := Lib.hid hR4
          have HU4 := Lib.hid hU4
          have HX4 := Lib.hid hX4
          have HQ4 := Lib.hid hq4
          have HP4 := Lib.hid hp4
          have HO := Lib.hid hord
          clear hW4 hpp hR4 hU4 hX4 hq4 hp4 hord
          refine (HBY.out W4 p HX4.out HR4.out).mono ?_
          rintro e w5 ⟨vv, rfl, hqn, hR5, hu5, ha5⟩
          obtain ⟨g1, g2, g3, oa, na1, na2, na3, sa, ma, qa, la1, la2, la3, rfl⟩ := hqn.seven
          have hua := (Upto.refl [] w5).alloc (.cells #[.slice g1 g2 g3, .int .i64 oa, .slice na1 na2 na3, .int .i64 sa, .int .i64 ma, .int .i64 qa, .slice la1 la2 la3] 48)
          have HQN := Lib.hid (hqn.keep (Keep.upto (S := []) hua (by simp)))
          have HR5 := Lib.hid (hR5.ext hua)
          have HU5 := Lib.hid (hu5.trans_ext hua)
          have HQ5 := Lib.hid ((hu5.trans_ext hua).at HQ4.out (by have := HO.out; simp; omega))
          have HP5 := Lib.hid ((hu5.trans_ext hua).at HP4.out (by have := HO.out; simp; omega))
          have HT5 : Hid ((w5.alloc (.cells #[.slice g1 g2 g3, .int .i64 oa, .slice na1 na2 na3, .int .i64 sa, .int .i64 ma, .int .i64 qa, .slice la1 la2 la3] 48)).heap[w5.heap.size]? = some (.cells #[.slice g1 g2 g3, .int .i64 oa, .slice na1 na2 na3, .int .i64 sa, .int .i64 ma, .int .i64 qa, .slice la1 la2 la3] 48 (0, 0))) := Lib.hid (new_at _ _)
          have HZ5 := Lib.hid (And.intro (Nat.lt_of_lt_of_le HR4.out.lt hu5.size) (And.intro hu5.size HR4.out.lt))
          have HN := Lib.hid (next_calls _ p ts s' HR5.out)
          clear hqn hR5 hu5 ha5 hua
          go_wp2_with fail
          refine HN.out.mono ?_
          rintro e w6 ⟨rfl, hu6⟩
          rw [HTK.out]
          unfold tkA
          obtain ⟨w7, hw7⟩ : ∃ w7, w7 = w6 := ⟨_, rfl⟩
          rw [← hw7] at hu6 ⊢
          have HR7 : Hid (RdAt w7 p ts s1) := Lib.hid (by rw [HSE.out]; exact HR5.out.ext hu6)
          have HUX := Lib.hid (hu6.mono (S' := [p]) (by simp))
          clear hu6 HN hw7
          have HU7 := Lib.hid (HU5.out.trans_same HUX.out)
          have HQ7 := Lib.hid (HUX.out.at HQ5.out (by have := HO.out; simp; omega))
          have HP7 := Lib.hid (HUX.out.at HP5.out (by have := HO.out; simp; omega))
          have HT7 := Lib.hid (HUX.out.at HT5.out (by have := HZ5.out; simp; omega))
          have HQN7 : Hid (QnV w7 (New W4) q (.agg #[.slice g1 g2 g3, .int .i64 oa, .slice na1 na2 na3, .int .i64 sa, .int .i64 ma, .int .i64 qa, .slice la1 la2 la3])) := Lib.hid (HQN.out.keep (Keep.upto HUX.out (fun b hb _ => by have := HZ5.out; unfold New at hb; simp; omega)))
          have HUW : Hid (Upto [] w w7) := Lib.hid (HU4.out.trans HU7.out (fun k hk => Or.inr (by simp at hk; have := HO.out; omega)))
          obtain ⟨⟨vr, hb7, -, -⟩, -, -⟩ := id HR7.out
          have b2 := cell_of hb7 2
          unfold rdC at b2
          simp only [List.getElem?_toArray, List.getElem?_cons_zero, List.getElem?_cons_succ] at b2
          clear hb7
          have ht7 := HT7.out
          obtain ⟨t0, t1, t2, t3, t4, t5, t6⟩ := cells7 ht7
          obtain ⟨u0, u1, u2, u3, u4, u5, u6⟩ := frees7 ht7
          obtain ⟨vf, a0, a1, a2, a3, a4, a5, eqn, hfv, hnv⟩ := HQN7.out
          simp only [Value.agg.injEq, Array.mk.injEq, List.cons.injEq, and_true] at eqn
          obtain ⟨rfl, rfl, rfl, rfl, rfl, rfl, rfl⟩ := eqn
          have HG := Lib.hid (great_calls q.body _ w7 _ hnv HQS.out)
          clear ht7 hfv hnv
          go_wp2_with fail
          refine HG.out.mono ?_
          clear t0 t1 t2 t3 t4 t5 t6 u0 u1 u2 u3 u4 u5 u6
          rintro e w8 ⟨rfl, hu8⟩
          have hbq := hu8.at HQ7.out (by simp)
          have hbp := hu8.at HP7.out (by simp)
          have HF := Lib.hid (prpost_fin (q := .zero) (r := readF qp x) (P := fun _ => False) (li := 0) (ci := 0) (ei := greatF q.body) (HUW.out.trans_ext hu8) (Nat.le_refl _) (by omega : w.heap.size ≤ w.heap.size + 1) (by omega) (QnV.zero _ _) (fun b hb => hb.elim) hbq hbp rfl rfl (by rw [HR.out]; exact ⟨rfl, rfl, rfl, rfl⟩))
          obtain ⟨z0, z1, z2, z3, z4, z5, z6⟩ := cells7 hbq
          obtain ⟨y0, y1, y2, y3, y4, y5, y6⟩ := frees7 hbq
          obtain ⟨d0, d1⟩ := cells2 hbp
          obtain ⟨f0, f1⟩ := frees2 hbp
          clear hbq hbp hu8
          go_wp2_with fail
          have hb7 := HF.out.2.1
          have hb2 := HF.out.2.2
          have q0 := cell_of hb7 0
          have q1 := cell_of hb7 1
          have q2 := cell_of hb7 2
          have q3 := cell_of hb7 3
          have q4 := cell_of hb7 4
          have q5 := cell_of hb7 5
          have q6 := cell_of hb7 6
          have p0 := cell_of hb2 0
          have p1 := cell_of hb2 1
          simp only [List.getElem?_toArray, List.getElem?_cons_zero, List.getElem?_cons_succ] at q0 q1 q2 q3 q4 q5 q6 p0 p1
          exact bodyPost_ret (v := .tuple #[.agg #[.slice none 0 0, .int .i64 0, .slice none 0 0, .int .i64 0, .int .i64 0, .int .i64 0, .slice none 0 0], .agg #[.int .i64 0, .int .i64 0], .int .i64 (greatF q.body)]) (by simp [results, Tryz.results56, go_sem, q0, q1, q2, q3, q4, q5, q6, p0, p1]) rfl HF.out.1
      · have k2 : ((s1.er : Int) != 0) = true := by rw [bne, show ((s1.er : Int) == 0) = false by rw [beq_eq_false_iff_ne]; omega]; rfl
        have HR : Hid (readF qp x = ⟨.zero, tl, tc, s1.er⟩) := Lib.hid (by rw [HS1.out, if_neg h2])
        clear h2
        go_enter Tryz.func56, Tryz.ntmps56
        go_wp2_with fail
        refine HC.out.mono ?_
        rintro e w2 ⟨tvv, rfl, hTv, hu2⟩
        obtain ⟨ta, tcap, rfl⟩ := hTv.len
        have HTV := Lib.hid hTv
        have HU2 := Lib.hid hu2
        clear hTv hu2
        go_wp2_with fail
        obtain ⟨W4, p, hW4, hpp, hR4, hU4, hX4, hq4, hp4, hord⟩ : ∃ W4 p, W4 = (w2.alloc (.cells #[.int .i64 0, .int .i64 0] 36)).alloc (.cells #[.slice ta ts.length tcap, .int .i64 0, .int .i64 0, .int .i64 0] 129) ∧ p = w2.heap.size + 1 ∧ RdAt W4 p ts ⟨0, 0, 0⟩ ∧ Upto [] w W4 ∧ Cx W4 p ts ∧ W4.heap[w.heap.size]? = some (.cells #[.slice none 0 0, .int .i64 0, .slice none 0 0, .int .i64 0, .int .i64 0, .int .i64 0, .slice none 0 0] 48 (0, 0)) ∧ W4.heap[w.heap.size + 1]? = some (.cells #[.int .i64 0, .int .i64 0] 36 (0, 0)) ∧ (w.heap.size + 1 < p) := by
          have ub := ((Upto.refl [] w2).alloc (.cells #[.int .i64 0, .int .i64 0] 36)).alloc (.cells #[.slice ta ts.length tcap, .int .i64 0, .int .i64 0, .int .i64 0] 129)
          have hb2 := HU2.out.at HBP.out (by simp)
          have h2 := lt_of_heap hb2
          have h22 := World.block_lt_of_cell? w _ HS.out.c0
          have h23 := HU0.out.size
          refine ⟨_, _, rfl, rfl, ⟨⟨_, new_at1 _ _ _, HTV.out.ext ub, ?_⟩, HLN.out.1, HFI.out⟩, (HU0.out.trans_ext HU2.out).trans_ext ub, ⟨HS.out.upto ((HU0.out.trans_ext HU2.out).trans_ext ub) (by simp), by simp at h22 h23; omega, HLN.out.2⟩, ub.at (HU2.out.at HBQ.out (by simp)) (by simp), ub.at hb2 (by simp), by omega⟩
          intro g o n c e
          rcases HTV.out.at with ⟨h0, _⟩ | ⟨g', o', c', e', hat⟩
          · have := HLN.out.1; rw [h0] at this; simp at this
          · rw [e'] at e
            simp at e
            obtain ⟨⟨rfl, rfl⟩, -, -⟩ := e
            obtain ⟨tt, ht⟩ : ∃ tt, ts[0]? = some tt := ⟨_, List.getElem?_eq_getElem HLN.out.1⟩
            have := World.block_lt_of_cell? w2 _ (hat _ _ ht).1
            simp at this
            omega
        rw [← hW4, ← hpp]
        have HR4 := Lib.hid hR4
        have HU4 := Lib.hid hU4
        have HX4 := Lib.hid hX4
        have HQ4 := Lib.hid hq4
        have HP4 := Lib.hid hp4
        have HO := Lib.hid hord
        clear hW4 hpp hR4 hU4 hX4 hq4 hp4 hord
        refine (HBY.out W4 p HX4.out HR4.out).mono ?_
        rintro e w5 ⟨vv, rfl, hqn, hR5, hu5, ha5⟩
        obtain ⟨g1, g2, g3, oa, na1, na2, na3, sa, ma, qa, la1, la2, la3, rfl⟩ := hqn.seven
        have hua := (Upto.refl [] w5).alloc (.cells #[.slice g1 g2 g3, .int .i64 oa, .slice na1 na2 na3, .int .i64 sa, .int .i64 ma, .int .i64 qa, .slice la1 la2 la3] 48)
        have HQN := Lib.hid (hqn.keep (Keep.upto (S := []) hua (by simp)))
        have HR5 := Lib.hid (hR5.ext hua)
        have HU5 := Lib.hid (hu5.trans_ext hua)
        have HQ5 := Lib.hid ((hu5.trans_ext hua).at HQ4.out (by have := HO.out; simp; omega))
        have HP5 := Lib.hid ((hu5.trans_ext hua).at HP4.out (by have := HO.out; simp; omega))
        have HT5 : Hid ((w5.alloc (.cells #[.slice g1 g2 g3, .int .i64 oa, .slice na1 na2 na3, .int .i64 sa, .int .i64 ma, .int .i64 qa, .slice la1 la2 la3] 48)).heap[w5.heap.size]? = some (.cells #[.slice g1 g2 g3, .int .i64 oa, .slice na1 na2 na3, .int .i64 sa, .int .i64 ma, .int .i64 qa, .slice la1 la2 la3] 48 (0, 0))) := Lib.hid (new_at _ _)
        have HZ5 := Lib.hid (And.intro (Nat.lt_of_lt_of_le HR4.out.lt hu5.size) (And.intro hu5.size HR4.out.lt))
        have HN := Lib.hid (next_calls _ p ts s' HR5.out)
        clear hqn hR5 hu5 ha5 hua
        go_wp2_with fail
        refine HN.out.mono ?_
        rintro e w6 ⟨rfl, hu6⟩
        rw [HTK.out]
        unfold tkA
        obtain ⟨w7, hw7⟩ : ∃ w7, w7 = w6 := ⟨_, rfl⟩
        rw [← hw7] at hu6 ⊢
        have HR7 : Hid (RdAt w7 p ts s1) := Lib.hid (by rw [HSE.out]; exact HR5.out.ext hu6)
        have HUX := Lib.hid (hu6.mono (S' := [p]) (by simp))
        clear hu6 HN hw7
        have HU7 := Lib.hid (HU5.out.trans_same HUX.out)
        have HQ7 := Lib.hid (HUX.out.at HQ5.out (by have := HO.out; simp; omega))
        have HP7 := Lib.hid (HUX.out.at HP5.out (by have := HO.out; simp; omega))
        have HT7 := Lib.hid (HUX.out.at HT5.out (by have := HZ5.out; simp; omega))
        have HQN7 : Hid (QnV w7 (New W4) q (.agg #[.slice g1 g2 g3, .int .i64 oa, .slice na1 na2 na3, .int .i64 sa, .int .i64 ma, .int .i64 qa, .slice la1 la2 la3])) := Lib.hid (HQN.out.keep (Keep.upto HUX.out (fun b hb _ => by have := HZ5.out; unfold New at hb; simp; omega)))
        have HUW : Hid (Upto [] w w7) := Lib.hid (HU4.out.trans HU7.out (fun k hk => Or.inr (by simp at hk; have := HO.out; omega)))
        obtain ⟨⟨vr, hb7, -, -⟩, -, -⟩ := id HR7.out
        have b2 := cell_of hb7 2
        unfold rdC at b2
        simp only [List.getElem?_toArray, List.getElem?_cons_zero, List.getElem?_cons_succ] at b2
        have HB7 := Lib.hid hb7
        have b3 := cell_of (((Upto.refl [] w7).drew).at hb7 (by simp)) 2
        unfold rdC at b3
        simp only [List.getElem?_toArray, List.getElem?_cons_zero, List.getElem?_cons_succ] at b3
        have HN7 := Lib.hid (next_calls w7.drew p ts s1 (HR7.out.ext ((Upto.refl [] w7).drew)))
        clear hb7
        go_wp2_with fail
        go_region_with (
          refine HN7.out.mono ?_
          rintro e w8 ⟨rfl, hu8⟩
          rw [HT1.out]
          unfold tkA
          have hu8b := ((Upto.refl [] w7).drew).trans_ext hu8
          have hbq := hu8b.at HQ7.out (by simp)
          have hbp := hu8b.at HP7.out (by simp)
          have b4 := cell_of (hu8b.at HB7.out (by simp)) 2
          unfold rdC at b4
          simp only [List.getElem?_toArray, List.getElem?_cons_zero, List.getElem?_cons_succ] at b4
          obtain ⟨z0, z1, z2, z3, z4, z5, z6⟩ := cells7 hbq
          obtain ⟨y0, y1, y2, y3, y4, y5, y6⟩ := frees7 hbq
          obtain ⟨d0, d1⟩ := cells2 hbp
          obtain ⟨f0, f1⟩ := frees2 hbp
          have n1 : w.heap.size ≠ p := by have := HO.out; omega
          have n2 : w.heap.size + 1 ≠ p := by have := HO.out; omega
          have n3 : p ≠ w.heap.size := n1.symm
          have n4 : p ≠ w.heap.size + 1 := n2.symm
          have HF := Lib.hid (prpost_fin (q := .zero) (r := readF qp x) (P := fun _ => False) (li := tl) (ci := tc) (ei := s1.er) (HUW.out.trans_ext hu8b) (Nat.le_refl _) (by omega : w.heap.size ≤ w.heap.size + 1) (by omega) (QnV.zero _ _) (fun b hb => hb.elim) hbq hbp rfl rfl (by rw [HR.out]; exact ⟨rfl, rfl, rfl, rfl⟩))
          clear hbq hbp hu8 hu8b)
        all_goals (
          go_wp2_with fail
          have hb7 := HF.out.2.1
          have hb2 := HF.out.2.2
          have q0 := cell_of hb7 0
          have q1 := cell_of hb7 1
          have q2 := cell_of hb7 2
          have q3 := cell_of hb7 3
          have q4 := cell_of hb7 4
          have q5 := cell_of hb7 5
          have q6 := cell_of hb7 6
          have p0 := cell_of hb2 0
          have p1 := cell_of hb2 1
          simp only [List.getElem?_toArray, List.getElem?_cons_zero, List.getElem?_cons_succ] at q0 q1 q2 q3 q4 q5 q6 p0 p1
          exact bodyPost_ret (v := .tuple #[.agg #[.slice none 0 0, .int .i64 0, .slice none 0 0, .int .i64 0, .int .i64 0, .int .i64 0, .slice none 0 0], .agg #[.int .i64 tl, .int .i64 tc], .int .i64 s1.er]) (by simp [results, Tryz.results56, go_sem, q0, q1, q2, q3, q4, q5, q6, p0, p1]) rfl HF.out.1)
    · have k1 : ((tk : Int) != 0) = true := by rw [bne, show ((tk : Int) == 0) = false by rw [beq_eq_false_iff_ne]; omega]; rfl
      have HS1 : Hid (readF qp x = if (wrongF 3 s').er = 0 then (if greatF q.body = 0 then ⟨q, 0, 0, 0⟩ else ⟨.zero, 0, 0, greatF q.body⟩) else ⟨.zero, tl, tc, (wrongF 3 s').er⟩) := Lib.hid (by
        have : tkAt ts (wrongF 3 s') = ⟨tk, tx, tv, tl, tc⟩ := by unfold tkAt; rw [wrongF_nx]; exact HTK.out
        rw [HRF.out]
        unfold endF
        simp only [HTK.out, if_neg h1, this])
      obtain ⟨s1, hs1, hnx1⟩ : ∃ s1, s1 = wrongF 3 s' ∧ s1.nx = s'.nx := ⟨_, rfl, wrongF_nx 3 s'⟩
      clear h1
      rw [← hs1] at HS1
      have HT1 : Hid (tkAt ts s1 = ⟨tk, tx, tv, tl, tc⟩) := Lib.hid (by have h := HTK.out; unfold tkAt at h ⊢; rw [hnx1]; exact h)
      have HSE := Lib.hid hs1
      clear hs1 hnx1
      by_cases h2 : s1.er = 0
      · have k2 : ((s1.er : Int) != 0) = false := by rw [bne, show ((s1.er : Int) == 0) = true by simp [h2]]; rfl
        by_cases h3 : greatF q.body = 0
        · have k3 : ((greatF q.body : Int) != 0) = false := by rw [bne, show ((greatF q.body : Int) == 0) = true by simp [h3]]; rfl
          have HR : Hid (readF qp x = ⟨q, 0, 0, 0⟩) := Lib.hid (by rw [HS1.out, if_pos h2, if_pos h3])
          clear h2 h3
          go_enter Tryz.func56, Tryz.ntmps56
          go_wp2_with fail
          refine HC.out.mono ?_
          rintro e w2 ⟨tvv, rfl, hTv, hu2⟩
          obtain ⟨ta, tcap, rfl⟩ := hTv.len
          have HTV := Lib.hid hTv
          have HU2 := Lib.hid hu2
          clear hTv hu2
          go_wp2_with fail
          obtain ⟨W4, p, hW4, hpp, hR4, hU4, hX4, hq4, hp4, hord⟩ : ∃ W4 p, W4 = (w2.alloc (.cells #[.int .i64 0, .int .i64 0] 36)).alloc (.cells #[.slice ta ts.length tcap, .int .i64 0, .int .i64 0, .int .i64 0] 129) ∧ p = w2.heap.size + 1 ∧ RdAt W4 p ts ⟨0, 0, 0⟩ ∧ Upto [] w W4 ∧ Cx W4 p ts ∧ W4.heap[w.heap.size]? = some (.cells #[.slice none 0 0, .int .i64 0, .slice none 0 0, .int .i64 0, .int .i64 0, .int .i64 0, .slice none 0 0] 48 (0, 0)) ∧ W4.heap[w.heap.size + 1]? = some (.cells #[.int .i64 0, .int .i64 0] 36 (0, 0)) ∧ (w.heap.size + 1 < p) := by
            have ub := ((Upto.refl [] w2).alloc (.cells #[.int .i64 0, .int .i64 0] 36)).alloc (.cells #[.slice ta ts.length tcap, .int .i64 0, .int .i64 0, .int .i64 0] 129)
            have hb2 := HU2.out.at HBP.out (by simp)
            have h2 := lt_of_heap hb2
            have h22 := World.block_lt_of_cell? w _ HS.out.c0
            have h23 := HU0.out.size
            refine ⟨_, _, rfl, rfl, ⟨⟨_, new_at1 _ _ _, HTV.out.ext ub, ?_⟩, HLN.out.1, HFI.out⟩, (HU0.out.trans_ext HU2.out).trans_ext ub, ⟨HS.out.upto ((HU0.out.trans_ext HU2.out).trans_ext ub) (by simp), by simp at h22 h23; omega, HLN.out.2⟩, ub.at (HU2.out.at HBQ.out (by simp)) (by simp), ub.at hb2 (by simp), by omega⟩
            intro g o n c e
            rcases HTV.out.at with ⟨h0, _⟩ | ⟨g', o', c', e', hat⟩
            · have := HLN.out.1; rw [h0] at this; simp at this
            · rw [e'] at e
              simp at e
              obtain ⟨⟨rfl, rfl⟩, -, -⟩ := e
              obtain ⟨tt, ht⟩ : ∃ tt, ts[0]? = some tt := ⟨_, List.getElem?_eq_getElem HLN.out.1⟩
              have := World.block_lt_of_cell? w2 _ (hat _ _ ht).1
              simp at this
              omega
          rw [← hW4, ← hpp]
          have HR4 := Lib.hid hR4
          have HU4 := Lib.hid hU4
          have HX4 := Lib.hid hX4
          have HQ4 := Lib.hid hq4
          have HP4 := Lib.hid hp4
          have HO := Lib.hid hord
          clear hW4 hpp hR4 hU4 hX4 hq4 hp4 hord
          refine (HBY.out W4 p HX4.out HR4.out).mono ?_
          rintro e w5 ⟨vv, rfl, hqn, hR5, hu5, ha5⟩
          obtain ⟨g1, g2, g3, oa, na1, na2, na3, sa, ma, qa, la1, la2, la3, rfl⟩ := hqn.seven
          have hua := (Upto.refl [] w5).alloc (.cells #[.slice g1 g2 g3, .int .i64 oa, .slice na1 na2 na3, .int .i64 sa, .int .i64 ma, .int .i64 qa, .slice la1 la2 la3] 48)
          have HQN := Lib.hid (hqn.keep (Keep.upto (S := []) hua (by simp)))
          have HR5 := Lib.hid (hR5.ext hua)
          have HU5 := Lib.hid (hu5.trans_ext hua)
          have HQ5 := Lib.hid ((hu5.trans_ext hua).at HQ4.out (by have := HO.out; simp; omega))
          have HP5 := Lib.hid ((hu5.trans_ext hua).at HP4.out (by have := HO.out; simp; omega))
          have HT5 : Hid ((w5.alloc (.cells #[.slice g1 g2 g3, .int .i64 oa, .slice na1 na2 na3, .int .i64 sa, .int .i64 ma, .int .i64 qa, .slice la1 la2 la3] 48)).heap[w5.heap.size]? = some (.cells #[.slice g1 g2 g3, .int .i64 oa, .slice na1 na2 na3, .int .i64 sa, .int .i64 ma, .int .i64 qa, .slice la1 la2 la3] 48 (0, 0))) := Lib.hid (new_at _ _)
          have HZ5 := Lib.hid (And.intro (Nat.lt_of_lt_of_le HR4.out.lt hu5.size) (And.intro hu5.size HR4.out.lt))
          have HN := Lib.hid (next_calls _ p ts s' HR5.out)
          clear hqn hR5 hu5 ha5 hua
          go_wp2_with fail
          refine HN.out.mono ?_
          rintro e w6 ⟨rfl, hu6⟩
          rw [HTK.out]
          unfold tkA
          have HR6 := Lib.hid (HR5.out.ext hu6)
          have HUA6 := Lib.hid hu6
          clear hu6 HN
          go_wp2_with fail
          refine (wrong_calls w6 p 3 ts s' HR6.out).mono ?_
          rintro e w7 ⟨rfl, hR7, hu7⟩
          rw [← HSE.out] at hR7
          have HR7 := Lib.hid hR7
          have HUX := Lib.hid ((HUA6.out.mono (S' := [p]) (by simp)).trans_same hu7)
          clear hR7 hu7
          have HU7 := Lib.hid (HU5.out.trans_same HUX.out)
          have HQ7 := Lib.hid (HUX.out.at HQ5.out (by have := HO.out; simp; omega))
          have HP7 := Lib.hid (HUX.out.at HP5.out (by have := HO.out; simp; omega))
          have HT7 := Lib.hid (HUX.out.at HT5.out (by have := HZ5.out; simp; omega))
          have HQN7 : Hid (QnV w7 (New W4) q (.agg #[.slice g1 g2 g3, .int .i64 oa, .slice na1 na2 na3, .int .i64 sa, .int .i64 ma, .int .i64 qa, .slice la1 la2 la3])) := Lib.hid (HQN.out.keep (Keep.upto HUX.out (fun b hb _ => by have := HZ5.out; unfold New at hb; simp; omega)))
          have HUW : Hid (Upto [] w w7) := Lib.hid (HU4.out.trans HU7.out (fun k hk => Or.inr (by simp at hk; have := HO.out; omega)))
          obtain ⟨⟨vr, hb7, -, -⟩, -, -⟩ := id HR7.out
          have b2 := cell_of hb7 2
          unfold rdC at b2
          simp only [List.getElem?_toArray, List.getElem?_cons_zero, List.getElem?_cons_succ] at b2
          clear hb7
          have ht7 := HT7.out
          obtain ⟨t0, t1, t2, t3, t4, t5, t6⟩ := cells7 ht7
          obtain ⟨u0, u1, u2, u3, u4, u5, u6⟩ := frees7 ht7
          obtain ⟨vf, a0, a1, a2, a3, a4, a5, eqn, hfv, hnv⟩ := HQN7.out
          simp only [Value.agg.injEq, Array.mk.injEq, List.cons.injEq, and_true] at eqn
          obtain ⟨rfl, rfl, rfl, rfl, rfl, rfl, rfl⟩ := eqn
          have HG := Lib.hid (great_calls q.body _ w7 _ hnv HQS.out)
          clear ht7 hfv hnv
          go_wp2_with fail
          refine HG.out.mono ?_
          clear t0 t1 t2 t3 t4 t5 t6 u0 u1 u2 u3 u4 u5 u6
          rintro e w8 ⟨rfl, hu8⟩
          have hbq := hu8.at HQ7.out (by simp)
          have hbp := hu8.at HP7.out (by simp)
          have hbt := hu8.at HT7.out (by simp)
          obtain ⟨t0, t1, t2, t3, t4, t5, t6⟩ := cells7 hbt
          obtain ⟨u0, u1, u2, u3, u4, u5, u6⟩ := frees7 hbt
          have HTN := Lib.hid (show w5.heap.size ≠ w.heap.size ∧ w5.heap.size ≠ w.heap.size + 1 by have := HZ5.out; have := HO.out; omega)
          have HF := Lib.hid (prpost_fin (q := q) (r := readF qp x) (P := New W4) (li := 0) (ci := 0) (ei := 0) (HUW.out.trans_ext hu8) (Nat.le_refl _) (by omega : w.heap.size ≤ w.heap.size + 1) (by omega) (HQN7.out.keep (Keep.upto (S := []) hu8 (by simp))) (fun b hb _ => by have h1 := HZ5.out; have h2 := HO.out; unfold New at hb ⊢; omega) hbq hbp rfl rfl (by rw [HR.out]; exact ⟨rfl, rfl, rfl, rfl⟩))
          obtain ⟨z0, z1, z2, z3, z4, z5, z6⟩ := cells7 hbq
          obtain ⟨y0, y1, y2, y3, y4, y5, y6⟩ := frees7 hbq
          obtain ⟨d0, d1⟩ := cells2 hbp
          obtain ⟨f0, f1⟩ := frees2 hbp
          clear hbq hbp hu8
          go_wp2_with fail
          have hb7 := HF.out.2.1
          have hb2 := HF.out.2.2
          have q0 := cell_of hb7 0
          have q1 := cell_of hb7 1
          have q2 := cell_of hb7 2
          have q3 := cell_of hb7 3
          have q4 := cell_of hb7 4
          have q5 := cell_of hb7 5
          have q6 := cell_of hb7 6
          have p0 := cell_of hb2 0
          have p1 := cell_of hb2 1
          simp only [List.getElem?_toArray, List.getElem?_cons_zero, List.getElem?_cons_succ] at q0 q1 q2 q3 q4 q5 q6 p0 p1
          exact bodyPost_ret (v := .tuple #[.agg #[.slice g1 g2 g3, .int .i64 oa, .slice na1 na2 na3, .int .i64 sa, .int .i64 ma, .int .i64 qa, .slice la1 la2 la3], .agg #[.int .i64 0, .int .i64 0], .int .i64 0]) (by simp [results, Tryz.results56, go_sem, q0, q1, q2, q3, q4, q5, q6, p0, p1]) rfl HF.out.1
        · have k3 : ((greatF q.body : Int) != 0) = true := by rw [bne, show ((greatF q.body : Int) == 0) = false by rw [beq_eq_false_iff_ne]; omega]; rfl
          have HR : Hid (readF qp x = ⟨.zero, 0, 0, greatF q.body⟩) := Lib.hid (by rw [HS1.out, if_pos h2, if_neg h3])
          clear h2 h3
          go_enter Tryz.func56, Tryz.ntmps56
          go_wp2_with fail
          refine HC.out.mono ?_
          rintro e w2 ⟨tvv, rfl, hTv, hu2⟩
          obtain ⟨ta, tcap, rfl⟩ := hTv.len
          have HTV := Lib.hid hTv
          have HU2 := Lib.hid hu2
          clear hTv hu2
          go_wp2_with fail
          obtain ⟨W4, p, hW4, hpp, hR4, hU4, hX4, hq4, hp4, hord⟩ : ∃ W4 p, W4 = (w2.alloc (.cells #[.int .i64 0, .int .i64 0] 36)).alloc (.cells #[.slice ta ts.length tcap, .int .i64 0, .int .i64 0, .int .i64 0] 129) ∧ p = w2.heap.size + 1 ∧ RdAt W4 p ts ⟨0, 0, 0⟩ ∧ Upto [] w W4 ∧ Cx W4 p ts ∧ W4.heap[w.heap.size]? = some (.cells #[.slice none 0 0, .int .i64 0, .slice none 0 0, .int .i64 0, .int .i64 0, .int .i64 0, .slice none 0 0] 48 (0, 0)) ∧ W4.heap[w.heap.size + 1]? = some (.cells #[.int .i64 0, .int .i64 0] 36 (0, 0)) ∧ (w.heap.size + 1 < p) := by
            have ub := ((Upto.refl [] w2).alloc (.cells #[.int .i64 0, .int .i64 0] 36)).alloc (.cells #[.slice ta ts.length tcap, .int .i64 0, .int .i64 0, .int .i64 0] 129)
            have hb2 := HU2.out.at HBP.out (by simp)
            have h2 := lt_of_heap hb2
            have h22 := World.block_lt_of_cell? w _ HS.out.c0
            have h23 := HU0.out.size
            refine ⟨_, _, rfl, rfl, ⟨⟨_, new_at1 _ _ _, HTV.out.ext ub, ?_⟩, HLN.out.1, HFI.out⟩, (HU0.out.trans_ext HU2.out).trans_ext ub, ⟨HS.out.upto ((HU0.out.trans_ext HU2.out).trans_ext ub) (by simp), by simp at h22 h23; omega, HLN.out.2⟩, ub.at (HU2.out.at HBQ.out (by simp)) (by simp), ub.at hb2 (by simp), by omega⟩
            intro g o n c e
            rcases HTV.out.at with ⟨h0, _⟩ | ⟨g', o', c', e', hat⟩
            · have := HLN.out.1; rw [h0] at this; simp at this
            · rw [e'] at e
              simp at e
              obtain ⟨⟨rfl, rfl⟩, -, -⟩ := e
              obtain ⟨tt, ht⟩ : ∃ tt, ts[0]? = some tt := ⟨_, List.getElem?_eq_getElem HLN.out.1⟩
              have := World.block_lt_of_cell? w2 _ (hat _ _ ht).1
              simp at this
              omega
          rw [← hW4, ← hpp]
          have HR4 := Lib.hid hR4
          have HU4 := Lib.hid hU4
          have HX4 := Lib.hid hX4
          have HQ4 := Lib.hid hq4
          have HP4 := Lib.hid hp4
          have HO := Lib.hid hord
          clear hW4 hpp hR4 hU4 hX4 hq4 hp4 hord
          refine (HBY.out W4 p HX4.out HR4.out).mono ?_
          rintro e w5 ⟨vv, rfl, hqn, hR5, hu5, ha5⟩
          obtain ⟨g1, g2, g3, oa, na1, na2, na3, sa, ma, qa, la1, la2, la3, rfl⟩ := hqn.seven
          have hua := (Upto.refl [] w5).alloc (.cells #[.slice g1 g2 g3, .int .i64 oa, .slice na1 na2 na3, .int .i64 sa, .int .i64 ma, .int .i64 qa, .slice la1 la2 la3] 48)
          have HQN := Lib.hid (hqn.keep (Keep.upto (S := []) hua (by simp)))
          have HR5 := Lib.hid (hR5.ext hua)
          have HU5 := Lib.hid (hu5.trans_ext hua)
          have HQ5 := Lib.hid ((hu5.trans_ext hua).at HQ4.out (by have := HO.out; simp; omega))
          have HP5 := Lib.hid ((hu5.trans_ext hua).at HP4.out (by have := HO.out; simp; omega))
          have HT5 : Hid ((w5.alloc (.cells #[.slice g1 g2 g3, .int .i64 oa, .slice na1 na2 na3, .int .i64 sa, .int .i64 ma, .int .i64 qa, .slice la1 la2 la3] 48)).heap[w5.heap.size]? = some (.cells #[.slice g1 g2 g3, .int .i64 oa, .slice na1 na2 na3, .int .i64 sa, .int .i64 ma, .int .i64 qa, .slice la1 la2 la3] 48 (0, 0))) := Lib.hid (new_at _ _)
          have HZ5 := Lib.hid (And.intro (Nat.lt_of_lt_of_le HR4.out.lt hu5.size) (And.intro hu5.size HR4.out.lt))
          have HN := Lib.hid (next_calls _ p ts s' HR5.out)
          clear hqn hR5 hu5 ha5 hua
          go_wp2_with fail
          refine HN.out.mono ?_
          rintro e w6 ⟨rfl, hu6⟩
          rw [HTK.out]
          unfold tkA
          have HR6 := Lib.hid (HR5.out.ext hu6)
          have HUA6 := Lib.hid hu6
          clear hu6 HN
          go_wp2_with fail
          refine (wrong_calls w6 p 3 ts s' HR6.out).mono ?_
          rintro e w7 ⟨rfl, hR7, hu7⟩
          rw [← HSE.out] at hR7
          have HR7 := Lib.hid hR7
          have HUX := Lib.hid ((HUA6.out.mono (S' := [p]) (by simp)).trans_same hu7)
          clear hR7 hu7
          have HU7 := Lib.hid (HU5.out.trans_same HUX.out)
          have HQ7 := Lib.hid (HUX.out.at HQ5.out (by have := HO.out; simp; omega))
          have HP7 := Lib.hid (HUX.out.at HP5.out (by have := HO.out; simp; omega))
          have HT7 := Lib.hid (HUX.out.at HT5.out (by have := HZ5.out; simp; omega))
          have HQN7 : Hid (QnV w7 (New W4) q (.agg #[.slice g1 g2 g3, .int .i64 oa, .slice na1 na2 na3, .int .i64 sa, .int .i64 ma, .int .i64 qa, .slice la1 la2 la3])) := Lib.hid (HQN.out.keep (Keep.upto HUX.out (fun b hb _ => by have := HZ5.out; unfold New at hb; simp; omega)))
          have HUW : Hid (Upto [] w w7) := Lib.hid (HU4.out.trans HU7.out (fun k hk => Or.inr (by simp at hk; have := HO.out; omega)))
          obtain ⟨⟨vr, hb7, -, -⟩, -, -⟩ := id HR7.out
          have b2 := cell_of hb7 2
          unfold rdC at b2
          simp only [List.getElem?_toArray, List.getElem?_cons_zero, List.getElem?_cons_succ] at b2
          clear hb7
          have ht7 := HT7.out
          obtain ⟨t0, t1, t2, t3, t4, t5, t6⟩ := cells7 ht7
          obtain ⟨u0, u1, u2, u3, u4, u5, u6⟩ := frees7 ht7
          obtain ⟨vf, a0, a1, a2, a3, a4, a5, eqn, hfv, hnv⟩ := HQN7.out
          simp only [Value.agg.injEq, Array.mk.injEq, List.cons.injEq, and_true] at eqn
          obtain ⟨rfl, rfl, rfl, rfl, rfl, rfl, rfl⟩ := eqn
          have HG := Lib.hid (great_calls q.body _ w7 _ hnv HQS.out)
          clear ht7 hfv hnv
          go_wp2_with fail
          refine HG.out.mono ?_
          clear t0 t1 t2 t3 t4 t5 t6 u0 u1 u2 u3 u4 u5 u6
          rintro e w8 ⟨rfl, hu8⟩
          have hbq := hu8.at HQ7.out (by simp)
          have hbp := hu8.at HP7.out (by simp)
          have HF := Lib.hid (prpost_fin (q := .zero) (r := readF qp x) (P := fun _ => False) (li := 0) (ci := 0) (ei := greatF q.body) (HUW.out.trans_ext hu8) (Nat.le_refl _) (by omega : w.heap.size ≤ w.heap.size + 1) (by omega) (QnV.zero _ _) (fun b hb => hb.elim) hbq hbp rfl rfl (by rw [HR.out]; exact ⟨rfl, rfl, rfl, rfl⟩))
          obtain ⟨z0, z1, z2, z3, z4, z5, z6⟩ := cells7 hbq
          obtain ⟨y0, y1, y2, y3, y4, y5, y6⟩ := frees7 hbq
          obtain ⟨d0, d1⟩ := cells2 hbp
          obtain ⟨f0, f1⟩ := frees2 hbp
          clear hbq hbp hu8
          go_wp2_with fail
          have hb7 := HF.out.2.1
          have hb2 := HF.out.2.2
          have q0 := cell_of hb7 0
          have q1 := cell_of hb7 1
          have q2 := cell_of hb7 2
          have q3 := cell_of hb7 3
          have q4 := cell_of hb7 4
          have q5 := cell_of hb7 5
          have q6 := cell_of hb7 6
          have p0 := cell_of hb2 0
          have p1 := cell_of hb2 1
          simp only [List.getElem?_toArray, List.getElem?_cons_zero, List.getElem?_cons_succ] at q0 q1 q2 q3 q4 q5 q6 p0 p1
          exact bodyPost_ret (v := .tuple #[.agg #[.slice none 0 0, .int .i64 0, .slice none 0 0, .int .i64 0, .int .i64 0, .int .i64 0, .slice none 0 0], .agg #[.int .i64 0, .int .i64 0], .int .i64 (greatF q.body)]) (by simp [results, Tryz.results56, go_sem, q0, q1, q2, q3, q4, q5, q6, p0, p1]) rfl HF.out.1
      · have k2 : ((s1.er : Int) != 0) = true := by rw [bne, show ((s1.er : Int) == 0) = false by rw [beq_eq_false_iff_ne]; omega]; rfl
        have HR : Hid (readF qp x = ⟨.zero, tl, tc, s1.er⟩) := Lib.hid (by rw [HS1.out, if_neg h2])
        clear h2
        go_enter Tryz.func56, Tryz.ntmps56
        go_wp2_with fail
        refine HC.out.mono ?_
        rintro e w2 ⟨tvv, rfl, hTv, hu2⟩
        obtain ⟨ta, tcap, rfl⟩ := hTv.len
        have HTV := Lib.hid hTv
        have HU2 := Lib.hid hu2
        clear hTv hu2
        go_wp2_with fail
        obtain ⟨W4, p, hW4, hpp, hR4, hU4, hX4, hq4, hp4, hord⟩ : ∃ W4 p, W4 = (w2.alloc (.cells #[.int .i64 0, .int .i64 0] 36)).alloc (.cells #[.slice ta ts.length tcap, .int .i64 0, .int .i64 0, .int .i64 0] 129) ∧ p = w2.heap.size + 1 ∧ RdAt W4 p ts ⟨0, 0, 0⟩ ∧ Upto [] w W4 ∧ Cx W4 p ts ∧ W4.heap[w.heap.size]? = some (.cells #[.slice none 0 0, .int .i64 0, .slice none 0 0, .int .i64 0, .int .i64 0, .int .i64 0, .slice none 0 0] 48 (0, 0)) ∧ W4.heap[w.heap.size + 1]? = some (.cells #[.int .i64 0, .int .i64 0] 36 (0, 0)) ∧ (w.heap.size + 1 < p) := by
          have ub := ((Upto.refl [] w2).alloc (.cells #[.int .i64 0, .int .i64 0] 36)).alloc (.cells #[.slice ta ts.length tcap, .int .i64 0, .int .i64 0, .int .i64 0] 129)
          have hb2 := HU2.out.at HBP.out (by simp)
          have h2 := lt_of_heap hb2
          have h22 := World.block_lt_of_cell? w _ HS.out.c0
          have h23 := HU0.out.size
          refine ⟨_, _, rfl, rfl, ⟨⟨_, new_at1 _ _ _, HTV.out.ext ub, ?_⟩, HLN.out.1, HFI.out⟩, (HU0.out.trans_ext HU2.out).trans_ext ub, ⟨HS.out.upto ((HU0.out.trans_ext HU2.out).trans_ext ub) (by simp), by simp at h22 h23; omega, HLN.out.2⟩, ub.at (HU2.out.at HBQ.out (by simp)) (by simp), ub.at hb2 (by simp), by omega⟩
          intro g o n c e
          rcases HTV.out.at with ⟨h0, _⟩ | ⟨g', o', c', e', hat⟩
          · have := HLN.out.1; rw [h0] at this; simp at this
          · rw [e'] at e
            simp at e
            obtain ⟨⟨rfl, rfl⟩, -, -⟩ := e
            obtain ⟨tt, ht⟩ : ∃ tt, ts[0]? = some tt := ⟨_, List.getElem?_eq_getElem HLN.out.1⟩
            have := World.block_lt_of_cell? w2 _ (hat _ _ ht).1
            simp at this
            omega
        rw [← hW4, ← hpp]
        have HR4 := Lib.hid hR4
        have HU4 := Lib.hid hU4
        have HX4 := Lib.hid hX4
        have HQ4 := Lib.hid hq4
        have HP4 := Lib.hid hp4
        have HO := Lib.hid hord
        clear hW4 hpp hR4 hU4 hX4 hq4 hp4 hord
        refine (HBY.out W4 p HX4.out HR4.out).mono ?_
        rintro e w5 ⟨vv, rfl, hqn, hR5, hu5, ha5⟩
        obtain ⟨g1, g2, g3, oa, na1, na2, na3, sa, ma, qa, la1, la2, la3, rfl⟩ := hqn.seven
        have hua := (Upto.refl [] w5).alloc (.cells #[.slice g1 g2 g3, .int .i64 oa, .slice na1 na2 na3, .int .i64 sa, .int .i64 ma, .int .i64 qa, .slice la1 la2 la3] 48)
        have HQN := Lib.hid (hqn.keep (Keep.upto (S := []) hua (by simp)))
        have HR5 := Lib.hid (hR5.ext hua)
        have HU5 := Lib.hid (hu5.trans_ext hua)
        have HQ5 := Lib.hid ((hu5.trans_ext hua).at HQ4.out (by have := HO.out; simp; omega))
        have HP5 := Lib.hid ((hu5.trans_ext hua).at HP4.out (by have := HO.out; simp; omega))
        have HT5 : Hid ((w5.alloc (.cells #[.slice g1 g2 g3, .int .i64 oa, .slice na1 na2 na3, .int .i64 sa, .int .i64 ma, .int .i64 qa, .slice la1 la2 la3] 48)).heap[w5.heap.size]? = some (.cells #[.slice g1 g2 g3, .int .i64 oa, .slice na1 na2 na3, .int .i64 sa, .int .i64 ma, .int .i64 qa, .slice la1 la2 la3] 48 (0, 0))) := Lib.hid (new_at _ _)
        have HZ5 := Lib.hid (And.intro (Nat.lt_of_lt_of_le HR4.out.lt hu5.size) (And.intro hu5.size HR4.out.lt))
        have HN := Lib.hid (next_calls _ p ts s' HR5.out)
        clear hqn hR5 hu5 ha5 hua
        go_wp2_with fail
        refine HN.out.mono ?_
        rintro e w6 ⟨rfl, hu6⟩
        rw [HTK.out]
        unfold tkA
        have HR6 := Lib.hid (HR5.out.ext hu6)
        have HUA6 := Lib.hid hu6
        clear hu6 HN
        go_wp2_with fail
        refine (wrong_calls w6 p 3 ts s' HR6.out).mono ?_
        rintro e w7 ⟨rfl, hR7, hu7⟩
        rw [← HSE.out] at hR7
        have HR7 := Lib.hid hR7
        have HUX := Lib.hid ((HUA6.out.mono (S' := [p]) (by simp)).trans_same hu7)
        clear hR7 hu7
        have HU7 := Lib.hid (HU5.out.trans_same HUX.out)
        have HQ7 := Lib.hid (HUX.out.at HQ5.out (by have := HO.out; simp; omega))
        have HP7 := Lib.hid (HUX.out.at HP5.out (by have := HO.out; simp; omega))
        have HT7 := Lib.hid (HUX.out.at HT5.out (by have := HZ5.out; simp; omega))
        have HQN7 : Hid (QnV w7 (New W4) q (.agg #[.slice g1 g2 g3, .int .i64 oa, .slice na1 na2 na3, .int .i64 sa, .int .i64 ma, .int .i64 qa, .slice la1 la2 la3])) := Lib.hid (HQN.out.keep (Keep.upto HUX.out (fun b hb _ => by have := HZ5.out; unfold New at hb; simp; omega)))
        have HUW : Hid (Upto [] w w7) := Lib.hid (HU4.out.trans HU7.out (fun k hk => Or.inr (by simp at hk; have := HO.out; omega)))
        obtain ⟨⟨vr, hb7, -, -⟩, -, -⟩ := id HR7.out
        have b2 := cell_of hb7 2
        unfold rdC at b2
        simp only [List.getElem?_toArray, List.getElem?_cons_zero, List.getElem?_cons_succ] at b2
        have HB7 := Lib.hid hb7
        have b3 := cell_of (((Upto.refl [] w7).drew).at hb7 (by simp)) 2
        unfold rdC at b3
        simp only [List.getElem?_toArray, List.getElem?_cons_zero, List.getElem?_cons_succ] at b3
        have HN7 := Lib.hid (next_calls w7.drew p ts s1 (HR7.out.ext ((Upto.refl [] w7).drew)))
        clear hb7
        go_wp2_with fail
        go_region_with (
          refine HN7.out.mono ?_
          rintro e w8 ⟨rfl, hu8⟩
          rw [HT1.out]
          unfold tkA
          have hu8b := ((Upto.refl [] w7).drew).trans_ext hu8
          have hbq := hu8b.at HQ7.out (by simp)
          have hbp := hu8b.at HP7.out (by simp)
          have b4 := cell_of (hu8b.at HB7.out (by simp)) 2
          unfold rdC at b4
          simp only [List.getElem?_toArray, List.getElem?_cons_zero, List.getElem?_cons_succ] at b4
          obtain ⟨z0, z1, z2, z3, z4, z5, z6⟩ := cells7 hbq
          obtain ⟨y0, y1, y2, y3, y4, y5, y6⟩ := frees7 hbq
          obtain ⟨d0, d1⟩ := cells2 hbp
          obtain ⟨f0, f1⟩ := frees2 hbp
          have n1 : w.heap.size ≠ p := by have := HO.out; omega
          have n2 : w.heap.size + 1 ≠ p := by have := HO.out; omega
          have n3 : p ≠ w.heap.size := n1.symm
          have n4 : p ≠ w.heap.size + 1 := n2.symm
          have HF := Lib.hid (prpost_fin (q := .zero) (r := readF qp x) (P := fun _ => False) (li := tl) (ci := tc) (ei := s1.er) (HUW.out.trans_ext hu8b) (Nat.le_refl _) (by omega : w.heap.size ≤ w.heap.size + 1) (by omega) (QnV.zero _ _) (fun b hb => hb.elim) hbq hbp rfl rfl (by rw [HR.out]; exact ⟨rfl, rfl, rfl, rfl⟩))
          clear hbq hbp hu8 hu8b)
        all_goals (
          go_wp2_with fail
          have hb7 := HF.out.2.1
          have hb2 := HF.out.2.2
          have q0 := cell_of hb7 0
          have q1 := cell_of hb7 1
          have q2 := cell_of hb7 2
          have q3 := cell_of hb7 3
          have q4 := cell_of hb7 4
          have q5 := cell_of hb7 5
          have q6 := cell_of hb7 6
          have p0 := cell_of hb2 0
          have p1 := cell_of hb2 1
          simp only [List.getElem?_toArray, List.getElem?_cons_zero, List.getElem?_cons_succ] at q0 q1 q2 q3 q4 q5 q6 p0 p1
          exact bodyPost_ret (v := .tuple #[.agg #[.slice none 0 0, .int .i64 0, .slice none 0 0, .int .i64 0, .int .i64 0, .int .i64 0, .slice none 0 0], .agg #[.int .i64 tl, .int .i64 tc], .int .i64 s1.er]) (by simp [results, Tryz.results56, go_sem, q0, q1, q2, q3, q4, q5, q6, p0, p1]) rfl HF.out.1)
theorem QnV.open {w : World} {P : Nat → Prop} {q : Qn} {v : Value} (h : QnV w P q v) : ∃ (f1 : Option Addr) (f3 : Nat) (op : Int) (a1 : Option Addr) (n1 c1 : Nat) (so n m : Int) (a2 : Option Addr) (n2 c2 : Nat), v = .agg #[.slice f1 q.free.length f3, .int .i64 op, .slice a1 n1 c1, .int .i64 so, .int .i64 n, .int .i64 m, .slice a2 n2 c2] ∧ VarsV w P (.slice f1 q.free.length f3) q.free ∧ NdV w P q.body (.agg #[.int .i64 op, .slice a1 n1 c1, .int .i64 so, .int .i64 n, .int .i64 m, .slice a2 n2 c2]) := by
  obtain ⟨vf, a0, a1, a2, a3, a4, a5, rfl, h1, h2⟩ := h
  obtain ⟨fa, fc, rfl⟩ := h1.len
  obtain ⟨op, x1, x2, x3, so, n, m, y1, y2, y3, hs⟩ := h2.six
  simp only [Value.agg.injEq, Array.mk.injEq, List.cons.injEq, and_true] at hs
  obtain ⟨rfl, rfl, rfl, rfl, rfl, rfl⟩ := hs
  exact ⟨fa, fc, op, x1, x2, x3, so, n, m, y1, y2, y3, rfl, h1, h2⟩
set_option maxRecDepth 100000 in
set_option maxHeartbeats 1600000 in
theorem hasc_calls (s : List UInt8) (w : World) (he : Env w) (hmax : s.length ≤ 281474976710656) : Calls Tryz.prog 127 #[.string ⟨s.toArray⟩] w fun e w' => e = .returned (.bool (!identF s)) ∧ Upto [] w w' := by
  have H := Lib.hid (isIdent_calls s w he hmax)
  generalize identF s = b at *
  go_enter Tryz.func127, Tryz.ntmps127
  go_wp2_with fail
  refine H.out.mono ?_
  rintro e w1 ⟨rfl, hu1⟩
  have HU1 := Lib.hid hu1
  clear hu1
  cases b
  · go_wp2_with fail
    go_ret
    exact ⟨rfl, HU1.out⟩
  · go_wp2_with fail
    go_ret
    exact ⟨rfl, HU1.out⟩
set_option maxRecDepth 100000 in
set_option maxHeartbeats 3200000 in
theorem indexf_calls (xs : List (List UInt8)) (a : Option Addr) (c : Nat) (w : World) (he : Env w) (hl : xs.length ≤ 10000000) (hx : ∀ x ∈ xs, x.length ≤ 10000000) (hc : ∀ i x, xs[i]? = some x → ∃ g o, a = some ⟨g, o, none⟩ ∧ w.cell? ⟨g, o + i, none⟩ = some (.string ⟨x.toArray⟩)) :
    Calls Tryz.prog 149 #[.slice a xs.length c, .func (.func 127) #[] #[]] w fun e w' => (∃ k : Int, e = .returned (.int .i64 k) ∧ (0 ≤ k ↔ xs.all identF = false)) ∧ Upto [] w w' := by
  have HE : Hid (∀ u, Upto [] w u → Env u) := Lib.hid (fun u hu => he.ext hu)
  have HC := Lib.hid hc
  have HX := Lib.hid hx
  generalize hB : xs.all identF = B at *
  have HB := Lib.hid hB
  clear hB
  generalize hL : xs.length = L at *
  have HL := Lib.hid hL
  have hL0 : (0 : Int) ≤ L := by omega
  have hL1 : (L : Int) ≤ 10000000 := by omega
  clear he hc hx hL
  go_enter Tryz.func149, Tryz.ntmps149
  go_wp2_with fail
  go_loopw [8] (fun i wr => ∃ j : Nat, j ≤ L ∧ i = .int .i64 j ∧ Hid (∀ q x, q < j → xs[q]? = some x → identF x = true) ∧ Hid (Upto [] w wr)) (fun i _ => L - (intOf i).toNat)
  case atStart => exact ⟨0, by omega, rfl, Lib.hid (fun q x hq => by omega), Lib.hid (Upto.refl _ _)⟩
  case round =>
    obtain ⟨j, hj, rfl, HA, HU⟩ := hrel
    have hj0 : (0 : Int) ≤ j := by omega
    rcases Nat.lt_or_ge j L with hlt | hge
    · have hltI : (j : Int) < L := by omega
      obtain ⟨x, hx⟩ : ∃ x, xs[j]? = some x := ⟨_, List.getElem?_eq_getElem (by have := HL.out; omega)⟩
      have hmem := List.mem_of_getElem? hx
      obtain ⟨g, o, rfl, c0⟩ := HC.out j x hx
      replace c0 := up_cell HU.out c0
      have HK := Lib.hid (hasc_calls x wr (HE.out wr HU.out) (by have := HX.out x hmem; omega))
      have hbb : identF x = true ∨ identF x = false := by cases identF x <;> simp
      rcases hbb with hb | hb
      · rw [hb] at HK
        have HA2 : Hid (∀ q x, q < j + 1 → xs[q]? = some x → identF x = true) := Lib.hid (fun q y hq hy => by
          by_cases hqj : q = j
          · subst hqj
            rw [hx] at hy
            cases hy
            exact hb
          · exact HA.out q y (by omega) hy)
        clear hx hmem hb
        go_wp2_with fail
        refine HK.out.mono ?_
        rintro e w5 ⟨rfl, hu5⟩
        have HU5 := Lib.hid (HU.out.trans_ext hu5)
        clear hu5
        go_wp2_with fail
        go_roundw
        case rel => exact ⟨j + 1, by omega, by go_num, HA2, HU5⟩
        case measure => simp [intOf]; omega
      · rw [hb] at HK
        have HF : Hid (B = false) := Lib.hid (by
          rw [← HB.out, Bool.eq_false_iff]
          intro h
          have := List.all_eq_true.1 h x hmem
          rw [hb] at this
          cases this)
        clear hx hmem hb
        go_wp2_with fail
        refine HK.out.mono ?_
        rintro e w5 ⟨rfl, hu5⟩
        have HU5 := Lib.hid (HU.out.trans_ext hu5)
        clear hu5
        go_wp2_with fail
        go_ret
        exact ⟨⟨(j : Int), rfl, fun _ => HF.out, fun _ => hj0⟩, HU5.out⟩
    · have hgeI : ¬ (j : Int) < L := by omega
      have HF : Hid (B = true) := Lib.hid (by
        rw [← HB.out, List.all_eq_true]
        intro x hx
        obtain ⟨q, hq, rfl⟩ := List.mem_iff_getElem.1 hx
        exact HA.out q _ (by have := HL.out; omega) (List.getElem?_eq_getElem hq))
      go_wp2_with fail
      go_ret
      exact ⟨⟨-1, rfl, fun h => absurd h (by decide), fun h => by rw [HF.out] at h; cases h⟩, HU.out⟩
set_option maxRecDepth 100000 in
set_option maxHeartbeats 1600000 in
theorem containsf_calls (xs : List (List UInt8)) (a : Option Addr) (c : Nat) (w : World) (he : Env w) (hl : xs.length ≤ 10000000) (hx : ∀ x ∈ xs, x.length ≤ 10000000) (hc : ∀ i x, xs[i]? = some x → ∃ g o, a = some ⟨g, o, none⟩ ∧ w.cell? ⟨g, o + i, none⟩ = some (.string ⟨x.toArray⟩)) :
    Calls Tryz.prog 126 #[.slice a xs.length c, .func (.func 127) #[] #[]] w fun e w' => e = .returned (.bool (!xs.all identF)) ∧ Upto [] w w' := by
  have H := Lib.hid (indexf_calls xs a c w he hl hx hc)
  clear hc hx hl he
  generalize hL : xs.length = L at *
  generalize xs.all identF = b at *
  clear hL
  go_enter Tryz.func126, Tryz.ntmps126
  go_wp2_with fail
  refine H.out.mono ?_
  rintro e w1 ⟨⟨k, rfl, hk⟩, hu1⟩
  have HU1 := Lib.hid hu1
  clear hu1
  cases b
  · have h0 : (0 : Int) ≤ k := hk.2 rfl
    clear hk
    go_wp2_with fail
    go_ret
    exact ⟨rfl, HU1.out⟩
  · have h0 : ¬ (0 : Int) ≤ k := fun h => by have := hk.1 h; cases this
    clear hk
    go_wp2_with fail
    go_ret
    refine ⟨?_, HU1.out⟩
    show Ending.returned (.bool (decide (0 ≤ k))) = _
    rw [decide_eq_false (by omega)]
    rfl
set_option maxRecDepth 100000 in
set_option maxHeartbeats 6400000 in
theorem parse_calls (x : List UInt8) (hl : x.length ≤ 281474976710656) (w : World) (he : Env w) (hs : SEnv w) : Calls Tryz.prog 39 #[.string ⟨x.toArray⟩] w (PRPost w (readF queryP x)) := by
  have hu0 : Upto [] w ((w.alloc (.cells #[.slice none 0 0, .int .i64 0, .slice none 0 0, .int .i64 0, .int .i64 0, .int .i64 0, .slice none 0 0] 48)).alloc (.cells #[.int .i64 0, .int .i64 0] 36)) := ((Upto.refl [] w).alloc _).alloc _
  have HU0 := Lib.hid hu0
  have HBQ : Hid (((w.alloc (.cells #[.slice none 0 0, .int .i64 0, .slice none 0 0, .int .i64 0, .int .i64 0, .int .i64 0, .slice none 0 0] 48)).alloc (.cells #[.int .i64 0, .int .i64 0] 36)).heap[w.heap.size]? = some (.cells #[.slice none 0 0, .int .i64 0, .slice none 0 0, .int .i64 0, .int .i64 0, .int .i64 0, .slice none 0 0] 48 (0, 0))) := Lib.hid (alloc_old (new_at _ _) _)
  have HBP : Hid (((w.alloc (.cells #[.slice none 0 0, .int .i64 0, .slice none 0 0, .int .i64 0, .int .i64 0, .int .i64 0, .slice none 0 0] 48)).alloc (.cells #[.int .i64 0, .int .i64 0] 36)).heap[w.heap.size + 1]? = some (.cells #[.int .i64 0, .int .i64 0] 36 (0, 0))) := Lib.hid (new_at1 _ _ _)
  have HC := Lib.hid (read_calls x hl 67 queryP ((w.alloc (.cells #[.slice none 0 0, .int .i64 0, .slice none 0 0, .int .i64 0, .int .i64 0, .int .i64 0, .slice none 0 0] 48)).alloc (.cells #[.int .i64 0, .int .i64 0] 36)) (he.ext hu0) (hs.upto hu0 (by simp)) (run_enter Tryz.func67 (by kernel_rfl) rfl)
    (fun l hf h0 => by obtain ⟨q, s', e, a, z, -⟩ := queryP_ok hf h0; exact ⟨q, s', e, a, z⟩)
    (fun w p l q s' htx hX hR hqp => query1_calls w p l htx ⟨0, 0, 0⟩ s' q hX hR (by decide) hqp))
  clear hu0 he hs
  go_enter Tryz.func39, Tryz.ntmps39
  go_wp2_with fail
  refine HC.out.mono ?_
  rintro e w2 ⟨vv, rfl, hqv, hu2⟩
  obtain ⟨g1, g2, g3, oa, na1, na2, na3, sa, ma, qa, la1, la2, la3, rfl⟩ := hqv.seven
  have hbq := hu2.at HBQ.out (by simp)
  have hbp := hu2.at HBP.out (by simp)
  obtain ⟨z0, z1, z2, z3, z4, z5, z6⟩ := cells7 hbq
  obtain ⟨y0, y1, y2, y3, y4, y5, y6⟩ := frees7 hbq
  obtain ⟨d0, d1⟩ := cells2 hbp
  obtain ⟨f0, f1⟩ := frees2 hbp
  have HF := Lib.hid (prpost_fin (r := readF queryP x) (P := New ((w.alloc (.cells #[.slice none 0 0, .int .i64 0, .slice none 0 0, .int .i64 0, .int .i64 0, .int .i64 0, .slice none 0 0] 48)).alloc (.cells #[.int .i64 0, .int .i64 0] 36))) (li := (readF queryP x).line) (ci := (readF queryP x).col) (ei := (readF queryP x).er) (HU0.out.trans_ext hu2) (Nat.le_refl _) (by omega : w.heap.size ≤ w.heap.size + 1) (by omega) hqv (fun b hb _ => by unfold New at hb ⊢; simp at hb; omega) hbq hbp rfl rfl ⟨rfl, rfl, rfl, rfl⟩)
  clear hbq hbp hu2 hqv HC
  go_wp2_with fail
  have hb7 := HF.out.2.1
  have hb2 := HF.out.2.2
  have q0 := cell_of hb7 0
  have q1 := cell_of hb7 1
  have q2 := cell_of hb7 2
  have q3 := cell_of hb7 3
  have q4 := cell_of hb7 4
  have q5 := cell_of hb7 5
  have q6 := cell_of hb7 6
  have p0 := cell_of hb2 0
  have p1 := cell_of hb2 1
  simp only [List.getElem?_toArray, List.getElem?_cons_zero, List.getElem?_cons_succ] at q0 q1 q2 q3 q4 q5 q6 p0 p1
  exact bodyPost_ret (v := .tuple #[.agg #[.slice g1 g2 g3, .int .i64 oa, .slice na1 na2 na3, .int .i64 sa, .int .i64 ma, .int .i64 qa, .slice la1 la2 la3], .agg #[.int .i64 (readF queryP x).line, .int .i64 (readF queryP x).col], .int .i64 (readF queryP x).er]) (by simp [results, Tryz.results39, go_sem, q0, q1, q2, q3, q4, q5, q6, p0, p1]) rfl HF.out.1
def FmPost (w : World) (r : PR) (e : Ending) (w' : World) : Prop :=
  ∃ v, e = .returned (.tuple #[v, .agg #[.int .i64 r.line, .int .i64 r.col], .int .i64 r.er]) ∧ NdV w' (New w) r.q.body v ∧ Upto [] w w'
theorem fmpost_fin {w W : World} {Bq Bp : Nat} {r : PR} {P : Nat → Prop} {a b c d e f x0 x1 x2 x3 x4 x5 y0 y1 : Value} (hu : Upto [] w W) (hBq : w.heap.size ≤ Bq) (hBp : w.heap.size ≤ Bp) (hne : Bq ≠ Bp) (hn : NdV W P r.q.body (.agg #[a, b, c, d, e, f]))
    (hP : ∀ b, P b → IsC W b → New w b ∧ b ≠ Bq ∧ b ≠ Bp) (hz : W.heap[Bq]? = some (.cells #[x0, x1, x2, x3, x4, x5] 34 (0, 0))) (hy : W.heap[Bp]? = some (.cells #[y0, y1] 36 (0, 0))) :
    FmPost w r (.returned (.tuple #[.agg #[a, b, c, d, e, f], .agg #[.int .i64 r.line, .int .i64 r.col], .int .i64 r.er])) ((((((((W.setCell ⟨Bq, 0, none⟩ a).setCell ⟨Bq, 1, none⟩ b).setCell ⟨Bq, 2, none⟩ c).setCell ⟨Bq, 3, none⟩ d).setCell ⟨Bq, 4, none⟩ e).setCell ⟨Bq, 5, none⟩ f).setCell ⟨Bp, 0, none⟩ (.int .i64 r.line)).setCell ⟨Bp, 1, none⟩ (.int .i64 r.col)) ∧
    ((((((((W.setCell ⟨Bq, 0, none⟩ a).setCell ⟨Bq, 1, none⟩ b).setCell ⟨Bq, 2, none⟩ c).setCell ⟨Bq, 3, none⟩ d).setCell ⟨Bq, 4, none⟩ e).setCell ⟨Bq, 5, none⟩ f).setCell ⟨Bp, 0, none⟩ (.int .i64 r.line)).setCell ⟨Bp, 1, none⟩ (.int .i64 r.col)).heap[Bq]? = some (.cells #[a, b, c, d, e, f] 34 (0, 0)) ∧ ((((((((W.setCell ⟨Bq, 0, none⟩ a).setCell ⟨Bq, 1, none⟩ b).setCell ⟨Bq, 2, none⟩ c).setCell ⟨Bq, 3, none⟩ d).setCell ⟨Bq, 4, none⟩ e).setCell ⟨Bq, 5, none⟩ f).setCell ⟨Bp, 0, none⟩ (.int .i64 r.line)).setCell ⟨Bp, 1, none⟩ (.int .i64 r.col)).heap[Bp]? = some (.cells #[.int .i64 r.line, .int .i64 r.col] 36 (0, 0)) := by
  have h7 := nd_store hz a b c d e f
  have u7 := nd_self W Bq a b c d e f
  have hy7 := u7.at hy (by simp; omega)
  have u2 : Upto [Bp] ((((((W.setCell ⟨Bq, 0, none⟩ a).setCell ⟨Bq, 1, none⟩ b).setCell ⟨Bq, 2, none⟩ c).setCell ⟨Bq, 3, none⟩ d).setCell ⟨Bq, 4, none⟩ e).setCell ⟨Bq, 5, none⟩ f) ((((((((W.setCell ⟨Bq, 0, none⟩ a).setCell ⟨Bq, 1, none⟩ b).setCell ⟨Bq, 2, none⟩ c).setCell ⟨Bq, 3, none⟩ d).setCell ⟨Bq, 4, none⟩ e).setCell ⟨Bq, 5, none⟩ f).setCell ⟨Bp, 0, none⟩ (.int .i64 r.line)).setCell ⟨Bp, 1, none⟩ (.int .i64 r.col)) := ((Upto.refl _ _).setCell (Or.inl (by simp)) _).setCell (Or.inl (by simp)) _
  have h2 := p_store hy7 (.int .i64 r.line) (.int .i64 r.col)
  refine ⟨⟨_, rfl, NdV.keep ⟨Nat.le_trans u7.size u2.size, fun b hb hl => ?_⟩ _ _ hn, ((nd_up hu (Or.inr hBq) a b c d e f).setCell (Or.inr (by simpa using hBp)) _).setCell (Or.inr (by simpa using hBp)) _⟩, u2.at h7 (by simpa using hne), h2⟩
  obtain ⟨k1, k2, k3⟩ := hP b hb hl
  exact ⟨k1, (u2.block b (Nat.lt_of_lt_of_le hl.lt u7.size) (by simpa using k3)).trans (u7.block b hl.lt (by simpa using k2))⟩
theorem FmPost.drew {w w' : World} {r : PR} {e : Ending} (h : FmPost w r e w') : FmPost w r e w'.drew := by
  obtain ⟨v, he, hq, hu⟩ := h
  exact ⟨v, he, NdV.keep (w := w') (w' := w'.drew) ⟨Nat.le_refl _, fun b hb _ => ⟨hb, rfl⟩⟩ _ _ hq, hu.drew⟩
set_option maxRecDepth 100000 in
set_option maxHeartbeats 6400000 in
theorem parseFormula_calls (x : List UInt8) (hl : x.length ≤ 281474976710656) (w : World) (he : Env w) (hs : SEnv w) : Calls Tryz.prog 22 #[.string ⟨x.toArray⟩] w (FmPost w (readF bareP x)) := by
  have hu0 : Upto [] w ((w.alloc (.cells #[.int .i64 0, .slice none 0 0, .int .i64 0, .int .i64 0, .int .i64 0, .slice none 0 0] 34)).alloc (.cells #[.int .i64 0, .int .i64 0] 36)) := ((Upto.refl [] w).alloc _).alloc _
  have HU0 := Lib.hid hu0
  have HBQ : Hid (((w.alloc (.cells #[.int .i64 0, .slice none 0 0, .int .i64 0, .int .i64 0, .int .i64 0, .slice none 0 0] 34)).alloc (.cells #[.int .i64 0, .int .i64 0] 36)).heap[w.heap.size]? = some (.cells #[.int .i64 0, .slice none 0 0, .int .i64 0, .int .i64 0, .int .i64 0, .slice none 0 0] 34 (0, 0))) := Lib.hid (alloc_old (new_at _ _) _)
  have HBP : Hid (((w.alloc (.cells #[.int .i64 0, .slice none 0 0, .int .i64 0, .int .i64 0, .int .i64 0, .slice none 0 0] 34)).alloc (.cells #[.int .i64 0, .int .i64 0] 36)).heap[w.heap.size + 1]? = some (.cells #[.int .i64 0, .int .i64 0] 36 (0, 0))) := Lib.hid (new_at1 _ _ _)
  have HC := Lib.hid (read_calls x hl 57 bareP ((w.alloc (.cells #[.int .i64 0, .slice none 0 0, .int .i64 0, .int .i64 0, .int .i64 0, .slice none 0 0] 34)).alloc (.cells #[.int .i64 0, .int .i64 0] 36)) (he.ext hu0) (hs.upto hu0 (by simp)) (run_enter Tryz.func57 (by kernel_rfl) rfl)
    (fun l hf h0 => by obtain ⟨q, s', e, a, z, -⟩ := bareP_ok hf h0; exact ⟨q, s', e, a, z⟩)
    (fun w p l q s' htx hX hR hqp => bare1_calls w p l htx ⟨0, 0, 0⟩ s' q hX hR (by decide) hqp))
  clear hu0 he hs
  go_enter Tryz.func22, Tryz.ntmps22
  go_wp2_with fail
  refine HC.out.mono ?_
  rintro e w2 ⟨vv, rfl, hqv, hu2⟩
  obtain ⟨g1, g2, g3, oa, na1, na2, na3, sa, ma, qa, la1, la2, la3, rfl⟩ := hqv.seven
  obtain ⟨vf, a0, a1, a2, a3, a4, a5, eqn, -, hnv⟩ := hqv
  simp only [Value.agg.injEq, Array.mk.injEq, List.cons.injEq, and_true] at eqn
  obtain ⟨rfl, rfl, rfl, rfl, rfl, rfl, rfl⟩ := eqn
  have hua := ((Upto.refl [] w2).alloc (.cells #[.slice g1 g2 g3, .int .i64 oa, .slice na1 na2 na3, .int .i64 sa, .int .i64 ma, .int .i64 qa, .slice la1 la2 la3] 48)).alloc (.cells #[.int .i64 (readF bareP x).line, .int .i64 (readF bareP x).col] 36)
  have hbq := hua.at (hu2.at HBQ.out (by simp)) (by simp)
  have hbp := hua.at (hu2.at HBP.out (by simp)) (by simp)
  have hb5 : ((w2.alloc (.cells #[.slice g1 g2 g3, .int .i64 oa, .slice na1 na2 na3, .int .i64 sa, .int .i64 ma, .int .i64 qa, .slice la1 la2 la3] 48)).alloc (.cells #[.int .i64 (readF bareP x).line, .int .i64 (readF bareP x).col] 36)).heap[w2.heap.size]? = some (.cells #[.slice g1 g2 g3, .int .i64 oa, .slice na1 na2 na3, .int .i64 sa, .int .i64 ma, .int .i64 qa, .slice la1 la2 la3] 48 (0, 0)) := alloc_old (new_at _ _) _
  have hb6 : ((w2.alloc (.cells #[.slice g1 g2 g3, .int .i64 oa, .slice na1 na2 na3, .int .i64 sa, .int .i64 ma, .int .i64 qa, .slice la1 la2 la3] 48)).alloc (.cells #[.int .i64 (readF bareP x).line, .int .i64 (readF bareP x).col] 36)).heap[w2.heap.size + 1]? = some (.cells #[.int .i64 (readF bareP x).line, .int .i64 (readF bareP x).col] 36 (0, 0)) := new_at1 _ _ _
  obtain ⟨z0, z1, z2, z3, z4, z5⟩ := cells6 hbq
  obtain ⟨y0, y1, y2, y3, y4, y5⟩ := frees6 hbq
  obtain ⟨d0, d1⟩ := cells2 hbp
  obtain ⟨f0, f1⟩ := frees2 hbp
  obtain ⟨g0, g1, g2, g3, g4, g5, g6⟩ := cells7 hb5
  obtain ⟨h0, h1, h2, h3, h4, h5, h6⟩ := frees7 hb5
  obtain ⟨i0, i1⟩ := cells2 hb6
  obtain ⟨j0, j1⟩ := frees2 hb6
  have hbqd := ((Upto.refl [] _).drew).at hbq (by simp)
  obtain ⟨zz0, zz1, zz2, zz3, zz4, zz5⟩ := cells6 hbqd
  obtain ⟨yy0, yy1, yy2, yy3, yy4, yy5⟩ := frees6 hbqd
  clear hbqd
  have hbpd := ((Upto.refl [] _).drew).at hbp (by simp)
  obtain ⟨dd0, dd1⟩ := cells2 hbpd
  obtain ⟨ff0, ff1⟩ := frees2 hbpd
  clear hbpd
  have hb5d := ((Upto.refl [] _).drew).at hb5 (by simp)
  obtain ⟨gg0, gg1, gg2, gg3, gg4, gg5, gg6⟩ := cells7 hb5d
  obtain ⟨hh0, hh1, hh2, hh3, hh4, hh5, hh6⟩ := frees7 hb5d
  clear hb5d
  have hb6d := ((Upto.refl [] _).drew).at hb6 (by simp)
  obtain ⟨ii0, ii1⟩ := cells2 hb6d
  obtain ⟨jj0, jj1⟩ := frees2 hb6d
  clear hb6d
  have hz2 := lt_of_heap (hu2.at HBP.out (by simp))
  have n1 : w.heap.size ≠ w2.heap.size := by omega
  have n2 : w.heap.size ≠ w2.heap.size + 1 := by omega
  have n3 : w.heap.size + 1 ≠ w2.heap.size := by omega
  have n4 : w.heap.size + 1 ≠ w2.heap.size + 1 := by omega
  have n5 := n1.symm
  have n6 := n2.symm
  have n7 := n3.symm
  have n8 := n4.symm
  have HF := Lib.hid (fmpost_fin (r := readF bareP x) (P := New ((w.alloc (.cells #[.int .i64 0, .slice none 0 0, .int .i64 0, .int .i64 0, .int .i64 0, .slice none 0 0] 34)).alloc (.cells #[.int .i64 0, .int .i64 0] 36))) ((HU0.out.trans_ext hu2).trans_ext hua) (Nat.le_refl _) (by omega : w.heap.size ≤ w.heap.size + 1) (by omega) (hnv.ext hua) (fun b hb _ => by unfold New at hb ⊢; simp at hb; omega) hbq hbp)
  clear hbq hbp hb5 hb6 hu2 hnv hua hz2 HC
  go_wp2_with fail
  go_region
  all_goals (
    go_wp2_with fail
    have hb7 := ((Upto.refl [] _).drew).at HF.out.2.1 (by simp)
    have hb2 := ((Upto.refl [] _).drew).at HF.out.2.2 (by simp)
    have q0 := cell_of hb7 0
    have q1 := cell_of hb7 1
    have q2 := cell_of hb7 2
    have q3 := cell_of hb7 3
    have q4 := cell_of hb7 4
    have q5 := cell_of hb7 5
    have p0 := cell_of hb2 0
    have p1 := cell_of hb2 1
    simp only [List.getElem?_toArray, List.getElem?_cons_zero, List.getElem?_cons_succ] at q0 q1 q2 q3 q4 q5 p0 p1
    exact bodyPost_ret (v := .tuple #[.agg #[.int .i64 oa, .slice na1 na2 na3, .int .i64 sa, .int .i64 ma, .int .i64 qa, .slice la1 la2 la3], .agg #[.int .i64 (readF bareP x).line, .int .i64 (readF bareP x).col], .int .i64 (readF bareP x).er]) (by simp [results, Tryz.results22, go_sem, q0, q1, q2, q3, q4, q5, p0, p1]) rfl HF.out.1.drew)
def knA : List UInt8 := [102, 105, 110, 100, 32, 115, 101, 116, 32, 88, 58, 32, 101, 118, 101, 114, 121, 32, 118, 101, 114, 116, 101, 120, 32, 118, 58, 32, 118, 32, 105, 110, 32, 88, 32, 111, 114, 32, 115, 111, 109, 101, 32, 118, 101, 114, 116, 101, 120, 32, 117, 58, 32, 117, 32, 105, 110, 32, 88, 32, 97, 110, 100, 32, 117, 32, 97, 100, 106, 32, 118]
def knB : List UInt8 := [97, 32, 105, 109, 112, 108, 105, 101, 115, 32, 98]
def knS : List UInt8 := [101, 118, 101, 114, 121, 32, 118, 101, 114, 116, 101, 120, 32, 118, 58, 32, 40, 118, 32, 105, 110, 32, 88, 41, 32, 111, 114, 32, 40, 115, 111, 109, 101, 32, 118, 101, 114, 116, 101, 120, 32, 117, 58, 32, 40, 117, 32, 105, 110, 32, 88, 41, 32, 97, 110, 100, 32, 40, 117, 32, 97, 100, 106, 32, 118, 41, 41]
def knD : Nd := .mk 17 [[118]] 0 0 0 [.mk 13 [] 0 0 0 [.mk 3 [[118], [88]] 0 0 0 [], .mk 16 [[117]] 0 0 0 [.mk 12 [] 0 0 0 [.mk 3 [[117], [88]] 0 0 0 [], .mk 5 [[117], [118]] 0 0 0 []]]]]
theorem knA_is : readF queryP knA = ⟨⟨[([88], 2)], knD⟩, 0, 0, 0⟩ := by kernel_rfl
theorem knB_pos : ((readF queryP knB).line, (readF queryP knB).col, (readF queryP knB).er) = (1, 3, 3) := by kernel_rfl
theorem knD_full : fullF knD = knS := by kernel_rfl
theorem knD_plain : plainF knD := by
  simp only [knD, plainF, plainsF]
  simp
theorem knD_big : bigN knD := by
  simp only [knD, bigN, bigsN]
  simp
theorem knD_size : sizeF knD ≤ 10 := by
  simp only [knD, sizeF, sizesF]
  simp
theorem kn_fin {w w1 : World} {r : PR} {a b c d e f g : Value} (hu : Upto [] w w1) (hq : QnV w1 (New w) r.q (.agg #[a, b, c, d, e, f, g])) :
    QnV ((w1.alloc (.cells #[a, b, c, d, e, f, g] 48)).alloc (.cells #[.int .i64 r.line, .int .i64 r.col] 36)) (New w) r.q (.agg #[a, b, c, d, e, f, g]) ∧ Upto [] w ((w1.alloc (.cells #[a, b, c, d, e, f, g] 48)).alloc (.cells #[.int .i64 r.line, .int .i64 r.col] 36)) ∧
    ((w1.alloc (.cells #[a, b, c, d, e, f, g] 48)).alloc (.cells #[.int .i64 r.line, .int .i64 r.col] 36)).heap[w1.heap.size]? = some (.cells #[a, b, c, d, e, f, g] 48 (0, 0)) ∧ ((w1.alloc (.cells #[a, b, c, d, e, f, g] 48)).alloc (.cells #[.int .i64 r.line, .int .i64 r.col] 36)).heap[w1.heap.size + 1]? = some (.cells #[.int .i64 r.line, .int .i64 r.col] 36 (0, 0)) ∧ Upto [] w1 ((w1.alloc (.cells #[a, b, c, d, e, f, g] 48)).alloc (.cells #[.int .i64 r.line, .int .i64 r.col] 36)) := by
  have ha : Upto [] w1 ((w1.alloc (.cells #[a, b, c, d, e, f, g] 48)).alloc (.cells #[.int .i64 r.line, .int .i64 r.col] 36)) := ((Upto.refl [] w1).alloc _).alloc _
  exact ⟨QnV.keep (Keep.upto ha (by simp)) hq, hu.trans_ext ha, alloc_old (new_at _ _) _, new_at1 _ _ _, ha⟩
set_option maxRecDepth 100000 in
set_option maxHeartbeats 6400000 in
theorem fknown_calls (w : World) (he : Env w) (hs : SEnv w) : Calls Tryz.prog 16 #[] w fun e w' => e = .returned (.bool true) ∧ Upto [] w w' := by
  have HS : Hid (∀ u, Upto [] w u → SEnv u) := Lib.hid (fun u hu => hs.upto hu (by simp))
  have HE : Hid (∀ u, Upto [] w u → Env u) := Lib.hid (fun u hu => he.ext hu)
  have HA := Lib.hid (parse_calls knA (by decide) w he hs)
  clear he hs
  go_enter Tryz.func16, Tryz.ntmps16
  go_wp2_with fail
  refine HA.out.mono ?_
  rintro e w1 ⟨v, rfl, hq, hu⟩
  have HK := Lib.hid (show (readF queryP knA).line = 0 ∧ (readF queryP knA).col = 0 ∧ (readF queryP knA).er = 0 by rw [knA_is]; exact ⟨rfl, rfl, rfl⟩)
  have hqq : (readF queryP knA).q = ⟨[([88], 2)], knD⟩ := by rw [knA_is]
  have hqe := id hq
  rw [hqq] at hqe
  obtain ⟨f1, f3, o1, a1, a2, a3, s1, n1, m1, l1, l2, l3, rfl, hv, hn⟩ := hqe.open
  have hf := kn_fin hu hq
  have e1 : ((readF queryP knA).line : Int) = 0 := by rw [HK.out.1]; rfl
  have e2 : ((readF queryP knA).col : Int) = 0 := by rw [HK.out.2.1]; rfl
  have e3 : ((readF queryP knA).er : Int) = 0 := by rw [HK.out.2.2]; rfl
  rw [e1, e2] at hf
  rw [e1, e2, e3]
  clear e1 e2 e3 HK HA hq hqe hqq
  obtain ⟨gx, ox, rfl, hx0⟩ : ∃ gx ox, f1 = some ⟨gx, ox, none⟩ ∧ w1.cell? ⟨gx, ox, none⟩ = some (.string ⟨#[88]⟩) ∧ w1.cell? ⟨gx, ox + 1, none⟩ = some (.int .i64 2) := by
    obtain ⟨a, c, e, hg⟩ := SlP.get hv
    obtain ⟨g, o, rfl, c0⟩ := hg 0 (.string ⟨#[88]⟩) rfl
    obtain ⟨g', o', e', c1⟩ := hg 1 (.int .i64 2) rfl
    simp at e'
    obtain ⟨rfl, rfl⟩ := e'
    simp at e
    exact ⟨g, o, e.1, c0, c1⟩
  have HF := Lib.hid hf
  have HX := Lib.hid hx0
  have HN := Lib.hid hn
  have HB : Hid (∀ u, Upto [] w u → Calls Tryz.prog 39 #[.string ⟨knB.toArray⟩] u (PRPost u (readF queryP knB))) := Lib.hid (fun u hu => parse_calls knB (by decide) u (HE.out u hu) (HS.out u hu))
  clear hf hx0 hn hv hu
  simp only [List.length_cons, List.length_nil, Nat.zero_add] at HF ⊢
  go_wp2_with fail
  refine (HB.out _ HF.out.2.1).mono ?_
  rintro e w3 ⟨v2, rfl, hq2, hu3⟩
  obtain ⟨h1, h2, h3, o2, b1, b2, b3, s2, n2, m2, k1, k2, k3, rfl⟩ := hq2.seven
  have hw3 := HF.out.2.1.trans_ext hu3
  have hf2 := kn_fin hw3 (QnV.keep (Keep.mono (fun b hb _ => New.mono HF.out.2.1 b hb)) hq2)
  have e4 : ((readF queryP knB).line : Int) = 1 := by have := congrArg (fun z => (z.1 : Int)) knB_pos; simpa using this
  have e5 : ((readF queryP knB).col : Int) = 3 := by have := congrArg (fun z => (z.2.1 : Int)) knB_pos; simpa using this
  have e6 : ((readF queryP knB).er : Int) = 3 := by have := congrArg (fun z => (z.2.2 : Int)) knB_pos; simpa using this
  rw [e4, e5] at hf2
  rw [e4, e5, e6]
  obtain ⟨-, hW2, -, hP2, hup⟩ := hf2
  have hup1 := HF.out.2.2.2.2.trans_ext (hu3.trans_ext hup)
  have hQ1 := hup.at (hu3.at HF.out.2.2.1 (by simp)) (by simp)
  have hP1 := hup.at (hu3.at HF.out.2.2.2.1 (by simp)) (by simp)
  have X0 := (hup1.cell (p := ⟨gx, ox, none⟩) (World.block_lt_of_cell? w1 _ HX.out.1) (by simp)).trans HX.out.1
  have X1 := (hup1.cell (p := ⟨gx, ox + 1, none⟩) (World.block_lt_of_cell? w1 _ HX.out.2) (by simp)).trans HX.out.2
  have HN2 := Lib.hid (HN.out.ext hup1)
  have x0 := cell_of hQ1 0
  have x1 := cell_of hQ1 1
  have x2 := cell_of hQ1 2
  have x3 := cell_of hQ1 3
  have x4 := cell_of hQ1 4
  have x5 := cell_of hQ1 5
  have x6 := cell_of hQ1 6
  have y0 := cell_of hP1 0
  have y1 := cell_of hP1 1
  simp only [List.getElem?_toArray, List.getElem?_cons_zero, List.getElem?_cons_succ] at x0 x1 x2 x3 x4 x5 x6 y0 y1
  have HP2 := Lib.hid hP2
  have HW2 := Lib.hid hW2
  clear e4 e5 e6 hQ1 hP1 hP2 hW2 hup hup1 hw3 hq2 hu3
  go_wp2_with fail
  refine (back_calls 10 knD knD_size (by omega) knD_big (New w) _ _ HN2.out).mono ?_
  rintro e w5 ⟨v5, rfl, hn5, hu5⟩
  have HN5 := Lib.hid hn5
  have HU5 := Lib.hid (HW2.out.trans_ext hu5)
  have HP5 := Lib.hid (hu5.at HP2.out (by simp))
  clear hn5 hu5
  obtain ⟨r0, r1, r2, r3, r4, r5, r6, r7, r8, r9, rfl⟩ := HN5.out.six
  go_wp2_with fail
  refine (full_calls w5 _ knD _ knD_plain (by rw [knD_full]; decide) HN5.out).mono ?_
  rintro e w6 ⟨rfl, hu6⟩
  rw [knD_full]
  have hp6 := hu6.at HP5.out (by simp)
  obtain ⟨z0, z1⟩ := cells2 hp6
  have HU6 := Lib.hid (HU5.out.trans_ext hu6)
  clear hp6 hu6
  go_wp2_with fail
  go_ret
  exact ⟨rfl, HU6.out⟩
end Go.Proofs.YtkhbpebpljdifaaGreatDoor
