/- Texts merged, in build order: Fm20, Fm21, Fm22, Fm23, Fm24, Fm28, Fm25, Fm29, Fm37, Lx, FmA, FmB, Fm26, FmH, Fm38. -/
import Derived.Test.YtkhbpebpljdifaaDoorMBlc
import Derived.Deep.RegionLaw
/- The reader of formulas: the walk of implies. -/
namespace Go.Proofs.YtkhbpebpljdifaaDoor
open Go.RowKit Go.PL Go.Maps Go.Shelf

attribute [local go_sem] Oper.semAt_some

/-- what stands between two rounds of the range -/
structure ImB (w : World) (p B Bn Bs : Nat) (l : List Tok) (t : PS) (ms : List Nd) (c : Nat → Nat → Value) (sl : Value) (ok : Prop) (k : Nat) (W : World) : Prop where
  rd : RdAt W p l t
  up : Upto [p] w W
  z : W.heap[B]? = some (.cells #[.int .i64 0, .slice none 0 0, .int .i64 0, .int .i64 0, .int .i64 0, .slice none 0 0] 59 (0, 0))
  bs : W.heap[Bs]? = some (.cells #[sl] 57 (0, 0))
  nd : ∀ i m, ms[i]? = some m → NdV W (Lo w B Bn) m (.agg #[c i 0, c i 1, c i 2, c i 3, c i 4, c i 5])
  acc : ∃ (oa : Int) (na1 : Option Addr) (na2 na3 : Nat) (sa ma qa : Int) (la1 : Option Addr) (la2 la3 : Nat), W.heap[Bn]? = some (.cells #[.int .i64 oa, .slice na1 na2 na3, .int .i64 sa, .int .i64 ma, .int .i64 qa, .slice la1 la2 la3] 59 (0, 0)) ∧ (ok → NdV W (Lo w B Bn) (implFold (ms.drop k)) (.agg #[.int .i64 oa, .slice na1 na2 na3, .int .i64 sa, .int .i64 ma, .int .i64 qa, .slice la1 la2 la3]))
theorem keep_grown {W W' : World} {row : Option Nat} (hg : W.grownBy W' row) (hr : ∀ r, row = some r → ∃ o : Obj, W.heap[r]? = some o ∧ o.isCells = false) (P : Nat → Prop) : Keep W W' P P :=
  ⟨hg.size, fun b hb hl => ⟨hb, hg.block b hl.lt (fun e => by
    obtain ⟨cs, t, z, h⟩ := hl
    obtain ⟨o, ho, hc⟩ := hr b (by first | exact e | exact e.symm)
    rw [h] at ho
    cases ho
    cases hc)⟩⟩
theorem ImB.grown {w : World} {p B Bn Bs : Nat} {l : List Tok} {t : PS} {ms : List Nd} {c : Nat → Nat → Value} {sl : Value} {ok : Prop} {k b0 : Nat} {W W' : World} {row : Option Nat} (h : ImB w p B Bn Bs l t ms c sl ok k W) (hb : p < b0 ∧ w.heap.size ≤ b0) (hg : W.grownBy W' row)
    (hr : ∀ r, row = some r → b0 ≤ r ∧ ∃ o : Obj, W.heap[r]? = some o ∧ o.isCells = false) : ImB w p B Bn Bs l t ms c sl ok k W' := by
  have hr2 := fun r e => (hr r e).2
  have hu : Upto row.toList W W' := (Upto.refl _ W).grown hg (fun k e => Or.inl (by rw [e]; simp))
  have kc := fun (b : Nat) (cs : Array Value) (T : TypeId) (z : Nat × Nat) (h : W.heap[b]? = some (.cells cs T z)) => (grownBy_keeps_cells hg hr2 h rfl).trans h
  refine ⟨h.rd.above hu (fun k hk => ?_), h.up.grown hg (fun k e => Or.inr ?_), kc _ _ _ _ h.z, kc _ _ _ _ h.bs, fun i m hi => NdV.keep (keep_grown hg hr2 _) _ _ (h.nd i m hi), ?_⟩
  · have := (hr k (Option.mem_toList.1 hk)).1; omega
  · have := (hr k e).1; omega
  · obtain ⟨oa, na1, na2, na3, sa, ma, qa, la1, la2, la3, h1, h2⟩ := h.acc
    exact ⟨oa, na1, na2, na3, sa, ma, qa, la1, la2, la3, kc _ _ _ _ h1, fun hk => NdV.keep (keep_grown hg hr2 _) _ _ (h2 hk)⟩
theorem ImB.ext {w : World} {p B Bn Bs : Nat} {l : List Tok} {t : PS} {ms : List Nd} {c : Nat → Nat → Value} {sl : Value} {ok : Prop} {k : Nat} {W W' : World} (h : ImB w p B Bn Bs l t ms c sl ok k W) (hu : Upto [] W W') : ImB w p B Bn Bs l t ms c sl ok k W' := by
  obtain ⟨oa, na1, na2, na3, sa, ma, qa, la1, la2, la3, h1, h2⟩ := h.acc
  exact ⟨h.rd.ext hu, h.up.trans_ext hu, hu.at h.z (by simp), hu.at h.bs (by simp), fun i m hi => (h.nd i m hi).ext hu, oa, na1, na2, na3, sa, ma, qa, la1, la2, la3, hu.at h1 (by simp), fun hk => (h2 hk).ext hu⟩
theorem ImB.at {w : World} {p B Bn Bs : Nat} {l : List Tok} {t : PS} {ms : List Nd} {c : Nat → Nat → Value} {sl : Value} {ok : Prop} {k k' : Nat} {W : World} (h : ImB w p B Bn Bs l t ms c sl ok k W) (hk : ok → k = k') : ImB w p B Bn Bs l t ms c sl ok k' W := by
  obtain ⟨oa, na1, na2, na3, sa, ma, qa, la1, la2, la3, h1, h2⟩ := h.acc
  exact ⟨h.rd, h.up, h.z, h.bs, h.nd, oa, na1, na2, na3, sa, ma, qa, la1, la2, la3, h1, fun ho => by rw [← hk ho]; exact h2 ho⟩
theorem implFold_step (ms : List Nd) (q : Nat) (m : Nd) (h : ms[q]? = some m) (hl : q + 1 < ms.length) : implFold (ms.drop q) = .mk 14 [] 0 0 0 [m, implFold (ms.drop (q + 1))] := by
  obtain ⟨h1, rfl⟩ := List.getElem?_eq_some_iff.1 h
  rw [List.drop_eq_getElem_cons h1]
  cases hd : ms.drop (q + 1) with
  | nil => have := congrArg List.length hd; simp at this; omega
  | cons y ys => rfl
/-- a round: the node over the element and what has been built -/
theorem ImB.next {w : World} {p B Bn Bs : Nat} {l : List Tok} {t : PS} {ms : List Nd} {c : Nat → Nat → Value} {sl : Value} {ok ok2 : Prop} {k q : Nat} {m : Nd} {W : World} (h : ImB w p B Bn Bs l t ms c sl ok k W) (hB : w.heap.size = B) (hp : p < B) (hBn : B < Bn) (hsn : Bs ≠ Bn)
    (hq : ms[q]? = some m) (hok : ok2 → ok ∧ k = q + 1 ∧ q + 1 < ms.length) {x0 x1 x2 x3 x4 x5 : Value} (hx : x0 = c q 0 ∧ x1 = c q 1 ∧ x2 = c q 2 ∧ x3 = c q 3 ∧ x4 = c q 4 ∧ x5 = c q 5) {oa : Int} {na1 : Option Addr} {na2 na3 : Nat} {sa ma qa : Int} {la1 : Option Addr} {la2 la3 : Nat} (hn : W.heap[Bn]? = some (.cells #[.int .i64 oa, .slice na1 na2 na3, .int .i64 sa, .int .i64 ma, .int .i64 qa, .slice la1 la2 la3] 59 (0, 0))) (ha : ok → NdV W (Lo w B Bn) (implFold (ms.drop k)) (.agg #[.int .i64 oa, .slice na1 na2 na3, .int .i64 sa, .int .i64 ma, .int .i64 qa, .slice la1 la2 la3])) :
    ImB w p B Bn Bs l t ms c sl ok2 q ((((((((W.alloc (.cells #[x0, x1, x2, x3, x4, x5, .int .i64 oa, .slice na1 na2 na3, .int .i64 sa, .int .i64 ma, .int .i64 qa, .slice la1 la2 la3] 59)).setCell ⟨Bn, 0, none⟩ (.int .i64 14)).setCell ⟨Bn, 1, none⟩ (.slice none 0 0)).setCell ⟨Bn, 2, none⟩ (.int .i64 0)).setCell ⟨Bn, 3, none⟩ (.int .i64 0)).setCell ⟨Bn, 4, none⟩ (.int .i64 0)).setCell ⟨Bn, 5, none⟩ (.slice (some ⟨W.heap.size, 0, none⟩) 2 2))) ∧
    Upto [Bn] W ((((((((W.alloc (.cells #[x0, x1, x2, x3, x4, x5, .int .i64 oa, .slice na1 na2 na3, .int .i64 sa, .int .i64 ma, .int .i64 qa, .slice la1 la2 la3] 59)).setCell ⟨Bn, 0, none⟩ (.int .i64 14)).setCell ⟨Bn, 1, none⟩ (.slice none 0 0)).setCell ⟨Bn, 2, none⟩ (.int .i64 0)).setCell ⟨Bn, 3, none⟩ (.int .i64 0)).setCell ⟨Bn, 4, none⟩ (.int .i64 0)).setCell ⟨Bn, 5, none⟩ (.slice (some ⟨W.heap.size, 0, none⟩) 2 2))) := by
  obtain ⟨rfl, rfl, rfl, rfl, rfl, rfl⟩ := hx
  have hua : Upto [] W (W.alloc (.cells #[c q 0, c q 1, c q 2, c q 3, c q 4, c q 5, .int .i64 oa, .slice na1 na2 na3, .int .i64 sa, .int .i64 ma, .int .i64 qa, .slice la1 la2 la3] 59)) := (Upto.refl [] W).alloc _
  have hlt := lt_of_heap hn
  have hnew := new_at W (.cells #[c q 0, c q 1, c q 2, c q 3, c q 4, c q 5, .int .i64 oa, .slice na1 na2 na3, .int .i64 sa, .int .i64 ma, .int .i64 qa, .slice la1 la2 la3] 59)
  have hus := h.up.size
  have hg : Lo w B Bn W.heap.size := ⟨hus, by omega, by omega⟩
  have hnA := hua.at hn (by simp)
  have hst := nd_self (W.alloc (.cells #[c q 0, c q 1, c q 2, c q 3, c q 4, c q 5, .int .i64 oa, .slice na1 na2 na3, .int .i64 sa, .int .i64 ma, .int .i64 qa, .slice la1 la2 la3] 59)) Bn (.int .i64 14) (.slice none 0 0) (.int .i64 0) (.int .i64 0) (.int .i64 0) (.slice (some ⟨W.heap.size, 0, none⟩) 2 2)
  have hbn := nd_store hnA (.int .i64 14) (.slice none 0 0) (.int .i64 0) (.int .i64 0) (.int .i64 0) (.slice (some ⟨W.heap.size, 0, none⟩) 2 2)
  refine ⟨⟨(h.rd.ext hua).above hst (fun k hk => by simp at hk; omega), nd_up (h.up.trans_ext hua) (Or.inr (by omega)) .., hst.at (hua.at h.z (by simp)) (by simp; omega), hst.at (hua.at h.bs (by simp)) (by simpa using hsn), fun i x hi => ((h.nd i x hi).ext hua).upto hst (fun b hb _ => by simp; exact hb.2.2), 14, none, 0, 0, 0, 0, 0, _, 2, 2, hbn, fun hk2 => ?_⟩, (hua.mono (by simp)).trans_same hst⟩
  obtain ⟨hk, rfl, hl⟩ := hok hk2
  rw [implFold_step ms q m hq hl]
  exact (NdV.two (op := 14) (so := 0) (names := []) SlP.nil ((h.nd q m hq).ext hua) ((ha hk).ext hua) hg hnew).upto hst (fun b hb _ => by simp; exact hb.2.2)
theorem RdPost.put {w W W' : World} {p D : Nat} {l : List Tok} {s s' : PS} {n : Nd} {e : Ending} (h : RdPost w p l s n s' e W) (hu : Upto [D] W W') (hD : p < D ∧ w.heap.size ≤ D) (hc : ¬ IsC W D) : RdPost w p l s n s' e W' := by
  obtain ⟨v, he, hn, hR, hup, ha⟩ := h
  exact ⟨v, he, hn.upto hu (fun b _ hl => by simp; rintro rfl; exact hc hl), hR.above hu (fun k hk => by simp at hk; omega), hup.trans hu (fun k hk => Or.inr (by simp at hk; omega)), ha⟩
theorem Down.snoc {r : Nat} {pre : List (Ix r)} {x : Ix r} (h : Down (pre ++ [x])) : Down pre ∧ x.1 + pre.length + 1 = r := by
  refine ⟨⟨by have := h.1; simp at this; omega, fun j y hy => h.2 j y ?_⟩, ?_⟩
  · rw [List.getElem?_append_left (List.getElem?_eq_some_iff.1 hy).1]; exact hy
  · exact h.2 pre.length x (by simp)

set_option maxRecDepth 100000 in
set_option maxHeartbeats 12800000 in
theorem implies_calls (w : World) (p : Nat) (l : List Tok) (s s' : PS) (n : Nd) (of : Rd) (hx : Cx w p l) (h : RdAt w p l s) (hd : s.dp ≤ 256) (hop : Rdr w p l 103 #[.pointer (some ⟨p, 0, none⟩)] of) (he : impliesP l of s = some (n, s')) :
    Calls Tryd.prog 76 #[.pointer (some ⟨p, 0, none⟩)] w (RdPost w p l s n s') := by
  have HpB : Hid (p < w.heap.size) := Lib.hid h.lt
  have hu0 : Upto [] w (w.alloc (.cells #[.int .i64 0, .slice none 0 0, .int .i64 0, .int .i64 0, .int .i64 0, .slice none 0 0] 59)) := (Upto.refl [] w).alloc _
  have HR0 := Lib.hid (h.ext hu0)
  have HX0 := Lib.hid (hx.ext hu0)
  have HU0 : Hid (Upto [p] w (w.alloc (.cells #[.int .i64 0, .slice none 0 0, .int .i64 0, .int .i64 0, .int .i64 0, .slice none 0 0] 59))) := Lib.hid (hu0.mono (by simp))
  have HNew : Hid ((w.alloc (.cells #[.int .i64 0, .slice none 0 0, .int .i64 0, .int .i64 0, .int .i64 0, .slice none 0 0] 59)).heap[w.heap.size]? = some (.cells #[.int .i64 0, .slice none 0 0, .int .i64 0, .int .i64 0, .int .i64 0, .slice none 0 0] 59 (0, 0))) := Lib.hid (new_at _ _)
  have hlen := hx.len
  have hin := h.inb
  have HF : Hid (Fin l) := Lib.hid h.fin
  have HOP := Lib.hid (hop.upto HU0.out)
  have HV : Hid (∃ m t a, orsP l of s = some (m, t) ∧ implLoop l (orsP l of) (l.length + 1) [m] t = some (a, s') ∧ n = implFold a) := Lib.hid (by
    unfold impliesP at he
    cases hq : orsP l of s with
    | none => rw [hq] at he; cases he
    | some r =>
      obtain ⟨m, t⟩ := r
      rw [hq] at he
      simp only [Option.bind_some] at he
      cases hz : implLoop l (orsP l of) (l.length + 1) [m] t with
      | none => rw [hz] at he; cases he
      | some r2 =>
        obtain ⟨a, t2⟩ := r2
        rw [hz] at he
        simp at he
        obtain ⟨rfl, rfl⟩ := he
        exact ⟨m, t, a, rfl, hz, rfl⟩)
  obtain ⟨m0, t0, a, hv1, hv2, rfl⟩ := HV.out
  have HO := Lib.hid (fun w1 (hu : Upto [p] w w1) s1 n1 s2 (hR : RdAt w1 p l s1) (hd1 : s1.dp ≤ 256) (he1 : orsP l of s1 = some (n1, s2)) => ors_calls w1 p l s1 s2 n1 of (hx.upto hu) hR hd1 (hop.upto hu) he1)
  have HV1 := Lib.hid hv1
  have HV2 := Lib.hid hv2
  clear hx h he hu0 hop HV hv1 hv2
  refine (callsIn_wide (n := 5)).1 ?_
  refine callsIn_of_wp_marks Tryd.func76 rfl trivial (wpIn_wide.2 ?_) rfl
  simp only [Tryd.ntmps76, List.size_toArray, List.length_cons, List.length_nil, Nat.reduceAdd, Nat.reduceSub, Array.replicate_succ, Array.replicate_zero, List.push_toArray, List.append_toArray, List.nil_append, List.cons_append]
  go_wp2_with fail
  refine (HO.out _ HU0.out s m0 t0 HR0.out hd HV1.out).mono ?_
  rintro e w2 ⟨vv, rfl, hn, hR2, hu2, ha⟩
  obtain ⟨oa, na1, na2, na3, sa, ma, qa, la1, la2, la3, rfl⟩ := hn.six
  have hua := (Upto.refl [] w2).alloc (.cells #[.int .i64 oa, .slice na1 na2 na3, .int .i64 sa, .int .i64 ma, .int .i64 qa, .slice la1 la2 la3] 59)
  have hgn : (w2.alloc (.cells #[.int .i64 oa, .slice na1 na2 na3, .int .i64 sa, .int .i64 ma, .int .i64 qa, .slice la1 la2 la3] 59)).heap[w2.heap.size]? = some (.cells #[.int .i64 oa, .slice na1 na2 na3, .int .i64 sa, .int .i64 ma, .int .i64 qa, .slice la1 la2 la3] 59 (0, 0)) := new_at _ _
  have HS2 : Hid (w.heap.size < w2.heap.size) := Lib.hid (Nat.lt_of_lt_of_le (lt_of_heap HNew.out) hu2.size)
  have HI0 : Hid (ImpI w p l of s s' a (.slice (some ⟨w2.heap.size, 0, none⟩) 1 1) (w2.alloc (.cells #[.int .i64 oa, .slice na1 na2 na3, .int .i64 sa, .int .i64 ma, .int .i64 qa, .slice la1 la2 la3] 59))) := Lib.hid ⟨_, _, _, _, HV2.out, hR2.ext hua, (HU0.out.trans_same hu2).trans_ext hua, ha, hua.at (hu2.at HNew.out (by have := HpB.out; simp; omega)) (by simp),
    NdRow.one hgn ((hn.mono (fun b hb hl => ⟨by have h1 := HU0.out.size; unfold New at hb ⊢; omega, by have h1 := lt_of_heap HNew.out; unfold New at hb; omega, by have := hl.lt; omega⟩)).ext hua) ⟨by have := HS2.out; omega, by have := HS2.out; omega⟩, by simp, by simp⟩
  clear hn hR2 hu2 ha hua hgn HS2
  obtain ⟨i0, hi0, hz0, hz1, hz2⟩ := info59'
  go_wp2_with fail
  go_loopw [3] (fun v wr => Hid (ImpI w p l of s s' a v wr)) (fun _ wr => l.length - nxOf wr p)
  case atStart => exact HI0
  case round =>
    obtain ⟨k, ms, t, c, hl, hR, hu, ha, hz, hrow, hne, hlm⟩ := hrel.out
    obtain ⟨g, cap, rfl, hcap, hgl, hcell⟩ := hrow.cells hne
    have HI := Lib.hid (And.intro hR (And.intro hu (And.intro ha (And.intro hz hrow))))
    have HC := Lib.hid (takes_calls wr p l t [105, 109, 112, 108, 105, 101, 115] hR hlen)
    have HNX := Lib.hid hR.nx
    have hml : ms.length ≤ 1000001 := by have := hR.inb; omega
    have HML := Lib.hid hlm
    clear hrel HI0
    cases k with
    | zero => unfold implLoop at hl; cases hl
    | succ k =>
    unfold implLoop at hl
    cases hv : isF l [105, 109, 112, 108, 105, 101, 115] t with
    | true =>
      rw [hv] at HC hl
      have HT : Hid ((takesF l [105, 109, 112, 108, 105, 101, 115] t).2 = stepF t) := Lib.hid (by unfold takesF; rw [if_pos hv])
      have HV3 : Hid (∃ m4 t4, orsP l of (stepF t) = some (m4, t4) ∧ implLoop l (orsP l of) k (ms ++ [m4]) t4 = some (a, s')) := Lib.hid (by
        simp only [if_true] at hl
        cases hq : orsP l of (stepF t) with
        | none => rw [hq] at hl; cases hl
        | some r => obtain ⟨m4, t4⟩ := r; rw [hq] at hl; exact ⟨m4, t4, rfl, hl⟩)
      have HK := Lib.hid (isF_ne hv)
      clear hR hu ha hz hrow hl hv hcell
      go_wp2_with fail
      refine HC.out.mono ?_
      rintro e w3 ⟨rfl, hR3, hu3⟩
      rw [HT.out] at hR3
      have HR3 := Lib.hid hR3
      have HU3 := Lib.hid hu3
      have HROW3 := Lib.hid (HI.out.2.2.2.2.upto hu3 (fun k hk => by simp at hk; have := HpB.out; omega))
      clear hR3 hu3
      obtain ⟨m4, t4, he4, hl4⟩ := HV3.out
      have HL4 := Lib.hid hl4
      have HE4 := Lib.hid he4
      clear he4 hl4
      have HUW : Hid (Upto [p] w w3) := Lib.hid (HI.out.2.1.trans_same HU3.out)
      go_wp2_with (first
        | (refine (HO.out w3 HUW.out (stepF t) m4 t4 HR3.out (by have := HI.out.2.2.1.dp; show t.dp ≤ 256; omega) HE4.out).mono ?_
           rintro e w4 ⟨v4, rfl, hn4, hR4, hu4, ha4⟩
           obtain ⟨ob, nb1, nb2, nb3, sb, mb, qb, lb1, lb2, lb3, rfl⟩ := hn4.six
           have HN4 := Lib.hid hn4
           have HR4 := Lib.hid hR4
           have HU4 := Lib.hid hu4
           have HA4 := Lib.hid ha4
           have HROW4 := Lib.hid (HROW3.out.upto hu4 (fun k hk => by simp at hk; have := HpB.out; omega))
           clear hn4 hR4 hu4 ha4)
        | (at_builtin
           refine wpList_app _ rfl (.tmp 12) (.tmp 15) 57 rfl 59 i0 (.agg #[.int .i64 0, .slice none 0 0, .int .i64 0, .int .i64 0, .int .i64 0, .slice none 0 0]) 6 80 Tryd.underlying57 hi0 hz0 hz1 hz2 rfl (by decide) (.slice (some ⟨g, 0, none⟩) ms.length cap) ms.length (cellsN c ms.length) rfl (HROW4.out.row.alloc _) ⟨w4.heap.size, 0, none⟩ 1 1 [.int .i64 ob, .slice nb1 nb2 nb3, .int .i64 sb, .int .i64 mb, .int .i64 qb, .slice lb1 lb2 lb3] rfl rfl (six_at (new_at _ _)) (by simp [Value.oneCell']) (by unfold maxLen; omega) (by omega) ?_
           intro b5 c5 w5 ho5 hu5 hw5))
      have hg3 : g < w3.heap.size := Nat.lt_of_lt_of_le hgl HU3.out.size
      have hua := (Upto.refl [] w4).alloc (.cells #[.int .i64 ob, .slice nb1 nb2 nb3, .int .i64 sb, .int .i64 mb, .int .i64 qb, .slice lb1 lb2 lb3] 59)
      have hown := HROW4.out.own g rfl
      have hsz4 := (HUW.out.trans_same HU4.out).size
      have hz4 := HU4.out.at (HU3.out.at HI.out.2.2.2.1 (by have := HpB.out; simp; omega)) (by have := HpB.out; simp; omega)
      have hp := HpB.out
      have hu5g : Upto [g] (w4.alloc (.cells #[.int .i64 ob, .slice nb1 nb2 nb3, .int .i64 sb, .int .i64 mb, .int .i64 qb, .slice lb1 lb2 lb3] 59)) w5 := hu5
      have hR5 := (HR4.out.ext hua).above hu5g (fun k hk => by simp at hk; omega)
      have hrow5 := NdRow.app (HROW4.out.upto hua (by simp)) (by simp; omega) (by have := lt_of_heap hz4; simp; omega) ((HN4.out.mono (fun b hb hl => ⟨by have := HUW.out.size; unfold New at hb ⊢; omega, by have := lt_of_heap (HU3.out.at HI.out.2.2.2.1 (by simp; omega)); unfold New at hb; omega, by unfold New at hb; simp [Value.ownBlock]; omega⟩)).ext hua) ho5 hu5 hw5
      have a5 := Adv.step HF.out HI.out.1.inb HK.out
      refine ⟨Lib.hid ⟨k, ms ++ [m4], t4, _, HL4.out, hR5, ((HUW.out.trans_same HU4.out).trans_ext hua).trans hu5g (fun k hk => Or.inr (by simp at hk; omega)), HI.out.2.2.1.trans (a5.trans HA4.out), hu5g.at (hua.at hz4 (by simp)) (by simp; omega), hrow5, by simp, ?_⟩, ?_⟩
      · have h1 := HML.out
        have h2 := HA4.out.le
        have h3 : (stepF t).nx = t.nx + 1 := rfl
        simp
        omega
      · have h1 := HNX.out
        have h2 := HA4.out.le
        have h3 : (stepF t).nx = t.nx + 1 := rfl
        have h4 := HA4.out.lt
        rw [hR5.nx, h1]
        omega
    | false =>
      rw [hv] at HC hl
      have HT : Hid ((takesF l [105, 109, 112, 108, 105, 101, 115] t).2 = t) := Lib.hid (by unfold takesF; rw [hv]; rfl)
      simp at hl
      obtain ⟨rfl, rfl⟩ := hl
      clear hR hu ha hz hrow hv
      go_wp2_with fail
      refine HC.out.mono ?_
      rintro e w3 ⟨rfl, hR3, hu3⟩
      rw [HT.out] at hR3
      have hg3 : ∀ i j, i < ms.length → j < 6 → w3.cell? ⟨g, 0 + i * 6 + j, none⟩ = some (c i j) := fun i j hi hj => (hu3.cell (p := ⟨g, 0 + i * 6 + j, none⟩) hgl (by have := (HI.out.2.2.2.2.own g rfl).1; have := HpB.out; simp; omega)).trans (hcell i j hi hj)
      obtain ⟨r, hr⟩ : ∃ r, ms.length = r + 1 := ⟨ms.length - 1, by have := List.length_pos_iff.2 hne; omega⟩
      have HROW3 := Lib.hid (HI.out.2.2.2.2.upto hu3 (fun k hk => by simp at hk; have := HpB.out; omega))
      have HR3 := Lib.hid hR3
      have HU3 := Lib.hid (HI.out.2.1.trans_same hu3)
      have HZ3 := Lib.hid (hu3.at HI.out.2.2.2.1 (by have := HpB.out; simp; omega))
      have HG3 := Lib.hid hg3
      have HLEN := Lib.hid hr
      have HADV := Lib.hid HI.out.2.2.1
      have HGL := Lib.hid (Nat.lt_of_lt_of_le hgl hu3.size)
      have e0 := hg3 r 0 (by omega) (by decide)
      have e1 := hg3 r 1 (by omega) (by decide)
      have e2 := hg3 r 2 (by omega) (by decide)
      have e3 := hg3 r 3 (by omega) (by decide)
      have e4 := hg3 r 4 (by omega) (by decide)
      have e5 := hg3 r 5 (by omega) (by decide)
      simp only [Nat.zero_add, Nat.add_zero] at e0 e1 e2 e3 e4 e5
      obtain ⟨ml, hml2⟩ : ∃ x, ms[r]? = some x := ⟨_, List.getElem?_eq_getElem (by omega)⟩
      have hlast := Lib.hid (HROW3.out.nd r ml hml2)
      have HML2 := Lib.hid hml2
      clear hml2
      have hrI : (r : Int) ≤ 1000001 := by omega
      have hr0 : (0 : Int) ≤ r := by omega
      have hcr : (r : Int) + 1 ≤ cap := by omega
      rw [hr]
      have hi1 : ((r + 1 : Nat) : Int) = (r : Int) + 1 := by omega
      obtain ⟨xo, xn1, xn2, xn3, xs1, xm, xq, xl1, xl2, xl3, hx6⟩ := hlast.out.six
      simp only [Value.agg.injEq, Array.mk.injEq, List.cons.injEq, and_true] at hx6
      obtain ⟨y0, y1, y2, y3, y4, y5⟩ := hx6
      rw [y0] at e0
      rw [y1] at e1
      rw [y2] at e2
      rw [y3] at e3
      rw [y4] at e4
      rw [y5] at e5
      have HX6 := Lib.hid (And.intro y0 (And.intro y1 (And.intro y2 (And.intro y3 (And.intro y4 y5)))))
      clear hR3 hu3 hg3 hcell hr hlm hml HC y0 y1 y2 y3 y4 y5
      go_wp2_with fail
      refine ((callsIn_wide (n := 5)).1 (backn_in 5 _ _ _ _)).mono ?_
      clear e0 e1 e2 e3 e4 e5
      rintro e w4 ⟨rfl, rfl⟩
      have hG := HG3.out
      have hgl3 := HGL.out
      have hpB := HpB.out
      have hgB := HROW3.out.own g rfl
      have hmlr := HLEN.out
      have hx6 := HX6.out
      have hB3 := lt_of_heap HZ3.out
      have HS6 : Hid (((w3.alloc (.cells #[.int .i64 xo, .slice xn1 xn2 xn3, .int .i64 xs1, .int .i64 xm, .int .i64 xq, .slice xl1 xl2 xl3] 59)).alloc (.cells #[.slice (some ⟨g, 0, none⟩) r cap] 57)).heap.size = w3.heap.size + 1 + 1) := Lib.hid (by simp)
      have HI6 : Hid (ImB w p w.heap.size w3.heap.size (w3.heap.size + 1) l t ms c (.slice (some ⟨g, 0, none⟩) r cap) (Down ([] : List (Ix r))) r ((w3.alloc (.cells #[.int .i64 xo, .slice xn1 xn2 xn3, .int .i64 xs1, .int .i64 xm, .int .i64 xq, .slice xl1 xl2 xl3] 59)).alloc (.cells #[.slice (some ⟨g, 0, none⟩) r cap] 57))) := Lib.hid (by
        have hua := (Upto.refl [] w3).alloc (.cells #[.int .i64 xo, .slice xn1 xn2 xn3, .int .i64 xs1, .int .i64 xm, .int .i64 xq, .slice xl1 xl2 xl3] 59)
        have hub := (Upto.refl [] (w3.alloc (.cells #[.int .i64 xo, .slice xn1 xn2 xn3, .int .i64 xs1, .int .i64 xm, .int .i64 xq, .slice xl1 xl2 xl3] 59))).alloc (.cells #[.slice (some ⟨g, 0, none⟩) r cap] 57)
        have hnd : ∀ i m, ms[i]? = some m → NdV w3 (Lo w w.heap.size w3.heap.size) m (.agg #[c i 0, c i 1, c i 2, c i 3, c i 4, c i 5]) := fun i m hi => (HROW3.out.nd i m hi).mono (fun b hb hl => ⟨hb.1, hb.2.1, by have := hl.lt; omega⟩)
        refine ⟨(HR3.out.ext hua).ext hub, (HU3.out.alloc _).alloc _, hub.at (hua.at HZ3.out (by simp)) (by simp), new_at1 _ _ _, fun i m hi => ((hnd i m hi).ext hua).ext hub, xo, xn1, xn2, xn3, xs1, xm, xq, xl1, xl2, xl3, hub.at (new_at _ _) (by simp), fun _ => ?_⟩
        have hd : ms.drop r = [ml] := by
          obtain ⟨h1, h2⟩ := List.getElem?_eq_some_iff.1 HML2.out
          rw [List.drop_eq_getElem_cons h1, h2, List.drop_eq_nil_of_le (by omega)]
        rw [hd]
        have := hnd r ml HML2.out
        rw [hx6.1, hx6.2.1, hx6.2.2.1, hx6.2.2.2.1, hx6.2.2.2.2.1, hx6.2.2.2.2.2] at this
        exact (this.ext hua).ext hub)
      have HC6 : Hid (∀ i j, i < r → j < 6 → ((w3.alloc (.cells #[.int .i64 xo, .slice xn1 xn2 xn3, .int .i64 xs1, .int .i64 xm, .int .i64 xq, .slice xl1 xl2 xl3] 59)).alloc (.cells #[.slice (some ⟨g, 0, none⟩) r cap] 57)).cell? ⟨g, 0 + i * 6 + j, none⟩ = some (c i j)) := Lib.hid (fun i j hi hj => (((Upto.refl [] w3).alloc _).alloc _).cell (p := ⟨g, 0 + i * 6 + j, none⟩) hgl3 (by simp) |>.trans (hG i j (by omega) hj))
      clear hG hx6
      go_wp2_with fail
      refine (wpIn_wide (n := 5)).1 ?_
      refine wpIn_rangeFunc_ownH (F := Fence.wide) (n := 5) rfl (by omega) (gf := 104) (lb := #[.pointer (some ⟨w3.heap.size + 1, 0, none⟩)]) rfl trivial (enters_of Tryd.func104 (by kernel_rfl) rfl)
        (back_stops (5 - 1) (by omega) (w3.heap.size + 1) g 0 r cap (by omega) c ((w3.alloc (.cells #[.int .i64 xo, .slice xn1 xn2 xn3, .int .i64 xs1, .int .i64 xm, .int .i64 xq, .slice xl1 xl2 xl3] 59)).alloc (.cells #[.slice (some ⟨g, 0, none⟩) r cap] 57)) (by simp; omega) (new_at1 _ _ _) HC6.out) (fun h k => h.trans k)
        (fun W lx o o' hlx ho hc _ => fun b hb => World.putObj_heap_other (by simp at hb hlx; omega)) (Below.refl _ _) (fun _ => rfl)
        (fun pre W => ImB w p w.heap.size w3.heap.size (w3.heap.size + 1) l t ms c (.slice (some ⟨g, 0, none⟩) r cap) (Down pre) (r - pre.length) W) (fun _ _ _ => False)
        (fun pre W W' row hI hg hr => hI.grown (b0 := w3.heap.size + 1 + 1) ⟨by omega, by omega⟩ hg (fun rr e => by have := hr rr e; rw [HS6.out] at this; exact this))
        (fun _ _ _ _ _ hs _ _ => hs) HI6.out
        (fun x a' W => ∃ Bx v30, a' = { tmps := #[.pointer (some ⟨p, 0, none⟩), undef, .pointer (some ⟨w.heap.size, 0, none⟩), .slice (some ⟨g, 0, none⟩) (r + 1) cap, .pointer (some ⟨w3.heap.size, 0, none⟩), undef, .pointer (some ⟨Bx, 0, none⟩), .pointer (some ⟨p, 0, none⟩), .agg #[.int .i64 oa, .slice na1 na2 na3, .int .i64 sa, .int .i64 ma, .int .i64 qa, .slice la1 la2 la3], .slice (some ⟨w2.heap.size, 0, none⟩) 1 1, .pointer (some ⟨p, 0, none⟩), .bool false, u12, u13, u14, u15, u16, .slice (some ⟨g, 0, none⟩) (r + 1) cap, .slice (some ⟨g, 0, none⟩) (r + 1) cap, .int .i64 ((r : Int) + 1), .int .i64 r, .pointer (some ⟨g, r * 6, none⟩), .agg #[.int .i64 xo, .slice xn1 xn2 xn3, .int .i64 xs1, .int .i64 xm, .int .i64 xq, .slice xl1 xl2 xl3], .slice (some ⟨g, 0, none⟩) (r + 1) cap, .slice (some ⟨g, 0, none⟩) (r + 1) cap, .int .i64 ((r : Int) + 1), .int .i64 r, .slice (some ⟨g, 0, none⟩) r cap, .func (.func 104) #[] #[.pointer (some ⟨w3.heap.size + 1, 0, none⟩)], .int .i64 x.1, v30, undef, undef, undef, undef, undef], defers := [] } ∧ W.heap[Bx]? = some (.cells #[c x.1 0, c x.1 1, c x.1 2, c x.1 3, c x.1 4, c x.1 5] 59 (0, 0)))
        (fun x a' _ W W' row hs hg hr => by
          obtain ⟨Bx, v30, h1, h2⟩ := hs
          exact ⟨Bx, v30, h1, (grownBy_keeps_cells hg (fun rr e => (hr rr e).2) h2 rfl).trans h2⟩) ?assign ?body ?done ?stop
      case assign =>
        intro lx pre x W K hI hK
        obtain ⟨mx, hmx⟩ : ∃ m, ms[x.1]? = some m := ⟨_, List.getElem?_eq_getElem (by have := x.2; omega)⟩
        obtain ⟨o', p1, p2, p3, s1, m1, q1, l1, l2, l3, hsix⟩ := (hI.nd _ _ hmx).six
        simp only [Value.agg.injEq, Array.mk.injEq, List.cons.injEq, and_true] at hsix
        obtain ⟨z0, z1, z2, z3, z4, z5⟩ := hsix
        have HIW := Lib.hid hI
        have HKW := Lib.hid hK
        have HSX := Lib.hid (And.intro z0 (And.intro z1 (And.intro z2 (And.intro z3 (And.intro z4 z5)))))
        unfold encsB
        rw [z0, z1, z2, z3, z4, z5]
        clear hI hK z0 z1 z2 z3 z4 z5
        gi_wp2
        have hu : Upto [] W (W.alloc (.cells #[.int .i64 o', .slice p1 p2 p3, .int .i64 s1, .int .i64 m1, .int .i64 q1, .slice l1 l2 l3] 59)) := (Upto.refl [] W).alloc _
        refine HKW.out _ _ ⟨hu.size, fun k o _ hk _ => hu.at hk (by simp)⟩ (fun b hb => ?_) (HIW.out.ext hu) ⟨_, _, rfl, ?_⟩
        · simp at hb
          rcases hb with rfl | rfl
          · exact hu.block _ (lt_of_heap HIW.out.bs) (by simp)
          · have h1 := HIW.out.acc
            exact hu.block _ (by have h2 := HIW.out.up.size; have h3 := lt_of_heap HIW.out.bs; omega) (by simp)
        · obtain ⟨z0, z1, z2, z3, z4, z5⟩ := HSX.out
          rw [z0, z1, z2, z3, z4, z5]
          exact new_at _ _
      case body =>
        rintro lx pre x a' W - - hI ⟨Bx, v30, rfl, hbx⟩ hlen
        obtain ⟨mx, hmx⟩ : ∃ m, ms[x.1]? = some m := ⟨_, List.getElem?_eq_getElem (by have := x.2; omega)⟩
        obtain ⟨o', p1, p2, p3, s1, m1, q1, l1, l2, l3, hsix⟩ := (hI.nd _ _ hmx).six
        simp only [Value.agg.injEq, Array.mk.injEq, List.cons.injEq, and_true] at hsix
        obtain ⟨z0, z1, z2, z3, z4, z5⟩ := hsix
        obtain ⟨ob, nb1, nb2, nb3, sb, mb, qb, lb1, lb2, lb3, hn, hacc⟩ := hI.acc
        have hz : (.int .i64 o' = c x.1 0 ∧ .slice p1 p2 p3 = c x.1 1 ∧ .int .i64 s1 = c x.1 2 ∧ .int .i64 m1 = c x.1 3 ∧ .int .i64 q1 = c x.1 4 ∧ .slice l1 l2 l3 = c x.1 5) := ⟨z0.symm, z1.symm, z2.symm, z3.symm, z4.symm, z5.symm⟩
        rw [z0, z1, z2, z3, z4, z5] at hbx
        have hnx := ImB.next (q := x.1) (ok2 := Down (pre ++ [x])) hI rfl hpB hB3 (by omega) hmx (fun hd => by have h1 := hd.snoc; exact ⟨h1.1, by omega, by have := x.2; omega⟩) hz hn hacc
        have hna := ((Upto.refl [] W).alloc (.cells #[.int .i64 o', .slice p1 p2 p3, .int .i64 s1, .int .i64 m1, .int .i64 q1, .slice l1 l2 l3, .int .i64 ob, .slice nb1 nb2 nb3, .int .i64 sb, .int .i64 mb, .int .i64 qb, .slice lb1 lb2 lb3] 59)).at hn (by simp)
        have cc0 := cell_of hbx 0
        have cc1 := cell_of hbx 1
        have cc2 := cell_of hbx 2
        have cc3 := cell_of hbx 3
        have cc4 := cell_of hbx 4
        have cc5 := cell_of hbx 5
        have d0 := free_of hbx 0
        have d1 := free_of hbx 1
        have d2 := free_of hbx 2
        have d3 := free_of hbx 3
        have d4 := free_of hbx 4
        have d5 := free_of hbx 5
        simp only [List.getElem?_toArray, List.getElem?_cons_zero, List.getElem?_cons_succ] at cc0 cc1 cc2 cc3 cc4 cc5
        have h0 := cell_of hn 0
        have h1 := cell_of hn 1
        have h2 := cell_of hn 2
        have h3 := cell_of hn 3
        have h4 := cell_of hn 4
        have h5 := cell_of hn 5
        have i0 := free_of hn 0
        have i1 := free_of hn 1
        have i2 := free_of hn 2
        have i3 := free_of hn 3
        have i4 := free_of hn 4
        have i5 := free_of hn 5
        simp only [List.getElem?_toArray, List.getElem?_cons_zero, List.getElem?_cons_succ] at h0 h1 h2 h3 h4 h5
        have e0 := cell_of hna 0
        have e1 := cell_of hna 1
        have e2 := cell_of hna 2
        have e3 := cell_of hna 3
        have e4 := cell_of hna 4
        have e5 := cell_of hna 5
        have f0 := free_of hna 0
        have f1 := free_of hna 1
        have f2 := free_of hna 2
        have f3 := free_of hna 3
        have f4 := free_of hna 4
        have f5 := free_of hna 5
        simp only [List.getElem?_toArray, List.getElem?_cons_zero, List.getElem?_cons_succ] at e0 e1 e2 e3 e4 e5
        have HNX := Lib.hid hnx
        have HNN := Lib.hid hn
        have HIW := Lib.hid hI
        have hlb := lt_of_heap hI.bs
        have HLB := Lib.hid hlb
        clear z0 z1 z2 z3 z4 z5 hz hnx hna hn hbx hacc hI hlb
        gi_wp2
        have hq := HNX.out
        refine ⟨⟨hq.2.size, fun k o _ hk ho => hq.2.at hk (by simp; rintro rfl; have := HNN.out; rw [hk] at this; cases this; cases ho)⟩, fun b hb => ?_, ?_⟩
        · simp at hb
          rcases hb with rfl | rfl
          · exact hq.2.block _ HLB.out (by simp)
          · exact hq.2.block _ (by have := HLB.out; omega) (by simp; omega)
        · refine hq.1.at (fun hd => ?_)
          have h1 := hd.snoc.2
          simp
          omega
      case done =>
        rintro D xs W hD ⟨hDn, hlen⟩ hI hK
        have hI0 := hI.at (k' := 0) (fun _ => by omega)
        obtain ⟨oa, na1, na2, na3, sa, ma, qa, la1, la2, la3, hn, hacc⟩ := hI0.acc
        have hz := hI.z
        have h0 := cell_of hn 0
        have h1 := cell_of hn 1
        have h2 := cell_of hn 2
        have h3 := cell_of hn 3
        have h4 := cell_of hn 4
        have h5 := cell_of hn 5
        have i0 := free_of hn 0
        have i1 := free_of hn 1
        have i2 := free_of hn 2
        have i3 := free_of hn 3
        have i4 := free_of hn 4
        have i5 := free_of hn 5
        simp only [List.getElem?_toArray, List.getElem?_cons_zero, List.getElem?_cons_succ] at h0 h1 h2 h3 h4 h5
        have z0 := cell_of hz 0
        have z1 := cell_of hz 1
        have z2 := cell_of hz 2
        have z3 := cell_of hz 3
        have z4 := cell_of hz 4
        have z5 := cell_of hz 5
        have y0 := free_of hz 0
        have y1 := free_of hz 1
        have y2 := free_of hz 2
        have y3 := free_of hz 3
        have y4 := free_of hz 4
        have y5 := free_of hz 5
        simp only [List.getElem?_toArray, List.getElem?_cons_zero, List.getElem?_cons_succ] at z0 z1 z2 z3 z4 z5
        have hDs : w3.heap.size + 1 + 1 ≤ D := by have := HS6.out; omega
        have hst := nd_self W w.heap.size (.int .i64 oa) (.slice na1 na2 na3) (.int .i64 sa) (.int .i64 ma) (.int .i64 qa) (.slice la1 la2 la3)
        have HD4 := Lib.hid (hst.at hK (by simp; omega))
        have HDN := Lib.hid (show ¬ IsC ((((((W.setCell ⟨w.heap.size, 0, none⟩ (.int .i64 oa)).setCell ⟨w.heap.size, 1, none⟩ (.slice na1 na2 na3)).setCell ⟨w.heap.size, 2, none⟩ (.int .i64 sa)).setCell ⟨w.heap.size, 3, none⟩ (.int .i64 ma)).setCell ⟨w.heap.size, 4, none⟩ (.int .i64 qa)).setCell ⟨w.heap.size, 5, none⟩ (.slice la1 la2 la3)) D from fun ⟨cs, t, z, h⟩ => by have := hst.at hK (by simp; omega); rw [h] at this; cases this)
        have hs := nd_store hz (.int .i64 oa) (.slice na1 na2 na3) (.int .i64 sa) (.int .i64 ma) (.int .i64 qa) (.slice la1 la2 la3)
        have hs2 : ((((((((W.setCell ⟨w.heap.size, 0, none⟩ (.int .i64 oa)).setCell ⟨w.heap.size, 1, none⟩ (.slice na1 na2 na3)).setCell ⟨w.heap.size, 2, none⟩ (.int .i64 sa)).setCell ⟨w.heap.size, 3, none⟩ (.int .i64 ma)).setCell ⟨w.heap.size, 4, none⟩ (.int .i64 qa)).setCell ⟨w.heap.size, 5, none⟩ (.slice la1 la2 la3))).putObj D (.deferred none)).heap[w.heap.size]? = some (.cells #[.int .i64 oa, .slice na1 na2 na3, .int .i64 sa, .int .i64 ma, .int .i64 qa, .slice la1 la2 la3] 59 (0, 0)) := (World.putObj_heap_other (by omega)).trans hs
        have HFIN := Lib.hid (rdpost_at (l := l) (s := s) (s' := t) (n := implFold ms) (P := Lo w w.heap.size w3.heap.size) (Nat.le_refl _) hpB hI.up hI.rd hz HADV.out (by have := hacc hDn; simpa using this) (fun b hb _ => ⟨hb.1, hb.2.1⟩))
        have HUD : Hid (Upto [D] ((((((W.setCell ⟨w.heap.size, 0, none⟩ (.int .i64 oa)).setCell ⟨w.heap.size, 1, none⟩ (.slice na1 na2 na3)).setCell ⟨w.heap.size, 2, none⟩ (.int .i64 sa)).setCell ⟨w.heap.size, 3, none⟩ (.int .i64 ma)).setCell ⟨w.heap.size, 4, none⟩ (.int .i64 qa)).setCell ⟨w.heap.size, 5, none⟩ (.slice la1 la2 la3)) ((((((((W.setCell ⟨w.heap.size, 0, none⟩ (.int .i64 oa)).setCell ⟨w.heap.size, 1, none⟩ (.slice na1 na2 na3)).setCell ⟨w.heap.size, 2, none⟩ (.int .i64 sa)).setCell ⟨w.heap.size, 3, none⟩ (.int .i64 ma)).setCell ⟨w.heap.size, 4, none⟩ (.int .i64 qa)).setCell ⟨w.heap.size, 5, none⟩ (.slice la1 la2 la3))).putObj D (.deferred none))) := Lib.hid ((Upto.refl [D] _).grown (grownBy_putObj' _ D _) (fun k e => by cases e; simp))
        have q0 := cell_of hs2 0
        have q1 := cell_of hs2 1
        have q2 := cell_of hs2 2
        have q3 := cell_of hs2 3
        have q4 := cell_of hs2 4
        have q5 := cell_of hs2 5
        have v0 := free_of hs2 0
        have v1 := free_of hs2 1
        have v2 := free_of hs2 2
        have v3 := free_of hs2 3
        have v4 := free_of hs2 4
        have v5 := free_of hs2 5
        simp only [List.getElem?_toArray, List.getElem?_cons_zero, List.getElem?_cons_succ] at q0 q1 q2 q3 q4 q5
        have HDS := Lib.hid hDs
        clear hI hI0 hn hacc hz hst hs hs2 hK hDs
        go_wp2_with fail
        refine ⟨by simp, .inl ⟨_, _, rfl, run_takeDeferred HD4.out, ?_⟩⟩
        exact ⟨.agg #[.int .i64 oa, .slice na1 na2 na3, .int .i64 sa, .int .i64 ma, .int .i64 qa, .slice la1 la2 la3], by simp [results, Tryd.results76, go_sem, q0, q1, q2, q3, q4, q5], HFIN.out.put HUD.out ⟨by have := HDS.out; omega, by have := HDS.out; omega⟩ HDN.out⟩
      case stop =>
        rintro D c' pre W _ _ h _
        exact h.elim
end Go.Proofs.YtkhbpebpljdifaaDoor

/- The reader of formulas, whole: formula. -/
namespace Go.Proofs.YtkhbpebpljdifaaDoor
open Go.RowKit Go.PL Go.Maps

theorem operand_calls (p : Nat) (l : List Tok) (htx : ∀ t ∈ l, t.text.length ≤ 65536) : ∀ (d : Nat) (w : World) (s : PS) (n : Nd) (s' : PS), Cx w p l → RdAt w p l s → s.dp ≤ 256 → operandP l d s = some (n, s') → Calls Tryd.prog 103 #[.pointer (some ⟨p, 0, none⟩)] w (RdPost w p l s n s')
  | 0, w, s, n, s', _, _, _, he => by unfold operandP at he; cases he
  | d + 1, w, s, n, s', hx, h, hd, he => by
    have hop : Rdr w p l 103 #[.pointer (some ⟨p, 0, none⟩)] (operandP l d) := fun w1 s1 n1 s2 hu hR hd1 he1 => operand_calls p l htx d w1 s1 n1 s2 (hx.upto hu) hR hd1 he1
    have him : Rdr w p l 76 #[.pointer (some ⟨p, 0, none⟩)] (impliesP l (operandP l d)) := fun w1 s1 n1 s2 hu hR hd1 he1 => implies_calls w1 p l s1 s2 n1 (operandP l d) (hx.upto hu) hR hd1 (hop.upto hu) he1
    have hfm : Rdr w p l 52 #[.pointer (some ⟨p, 0, none⟩)] (formulaP l (operandP l d)) := fun w1 s1 n1 s2 hu hR hd1 he1 => formula_calls w1 p l s1 s2 n1 (operandP l d) (hx.upto hu) hR hd1 (him.upto hu) he1
    have hlen : (tkAt l s).text.length ≤ 65536 := htx _ (List.mem_of_getElem? (tk_some h.inb))
    unfold operandP at he
    simp only at he
    obtain ⟨tk, tx, tv, tl, tc, hT⟩ : ∃ tk tx tv tl tc, tkAt l s = ⟨tk, tx, tv, tl, tc⟩ := ⟨_, _, _, _, _, rfl⟩
    have HT := Lib.hid hT
    rw [hT] at hlen he
    simp only at he hlen
    by_cases h34 : tk = 3 ∨ tk = 4
    · have hk0 : (tkAt l s).kind ≠ 0 := by rw [hT]; simp; omega
      by_cases h0 : s.er = 0
      · rw [if_pos ⟨h34, h0⟩] at he
        by_cases e116 : tx = [116, 114, 117, 101]
        · rw [if_pos e116] at he
          subst e116
          exact operand_word w p l s s' n 116 hx h tk tv tl tc _ HT h34 h0 (Lib.hid fun w b hm => piece_116 hm) (run_enter Tryd.func116 (by kernel_rfl) rfl) (Lib.hid fun W4 hu hx4 hR4 => true_calls W4 p l s s' n hx4 hR4 hd hk0 he)
        rw [if_neg e116] at he
        by_cases e117 : tx = [102, 97, 108, 115, 101]
        · rw [if_pos e117] at he
          subst e117
          exact operand_word w p l s s' n 117 hx h tk tv tl tc _ HT h34 h0 (Lib.hid fun w b hm => piece_117 hm) (run_enter Tryd.func117 (by kernel_rfl) rfl) (Lib.hid fun W4 hu hx4 hR4 => false_calls W4 p l s s' n hx4 hR4 hd hk0 he)
        rw [if_neg e117] at he
        by_cases e118 : tx = [115, 105, 122, 101]
        · rw [if_pos e118] at he
          subst e118
          exact operand_word w p l s s' n 118 hx h tk tv tl tc _ HT h34 h0 (Lib.hid fun w b hm => piece_118 hm) (run_enter Tryd.func118 (by kernel_rfl) rfl) (Lib.hid fun W4 hu hx4 hR4 => size_calls W4 p l s s' n hx4 hR4 hd hk0 he)
        rw [if_neg e118] at he
        by_cases e120 : tx = [111, 110, 101]
        · rw [if_pos e120] at he
          subst e120
          exact operand_word w p l s s' n 120 hx h tk tv tl tc _ HT h34 h0 (Lib.hid fun w b hm => piece_120 hm) (run_enter Tryd.func120 (by kernel_rfl) rfl) (Lib.hid fun W4 hu hx4 hR4 => one_calls W4 p l s s' n hx4 hR4 hd hk0 he)
        rw [if_neg e120] at he
        by_cases e121 : tx = [110, 111, 116]
        · rw [if_pos e121] at he
          subst e121
          exact operand_word w p l s s' n 121 hx h tk tv tl tc _ HT h34 h0 (Lib.hid fun w b hm => piece_121 hm) (run_enter Tryd.func121 (by kernel_rfl) rfl) (Lib.hid fun W4 hu hx4 hR4 => not_calls W4 p l s s' n (operandP l d) hx4 hR4 hd hk0 (hop.upto hu) he)
        rw [if_neg e121] at he
        by_cases e124 : tx = [115, 111, 109, 101]
        · rw [if_pos e124] at he
          subst e124
          exact operand_word w p l s s' n 124 hx h tk tv tl tc _ HT h34 h0 (Lib.hid fun w b hm => piece_124 hm) (run_enter Tryd.func124 (by kernel_rfl) rfl) (Lib.hid fun W4 hu hx4 hR4 => some_calls W4 p l s s' n (formulaP l (operandP l d)) hx4 hR4 hd hk0 (hfm.upto hu) he)
        rw [if_neg e124] at he
        by_cases e126 : tx = [101, 118, 101, 114, 121]
        · rw [if_pos e126] at he
          subst e126
          exact operand_word w p l s s' n 126 hx h tk tv tl tc _ HT h34 h0 (Lib.hid fun w b hm => piece_126 hm) (run_enter Tryd.func126 (by kernel_rfl) rfl) (Lib.hid fun W4 hu hx4 hR4 => every_calls W4 p l s s' n (formulaP l (operandP l d)) hx4 hR4 hd hk0 (hfm.upto hu) he)
        rw [if_neg e126] at he
        by_cases e127 : tx = [40]
        · rw [if_pos e127] at he
          subst e127
          exact operand_word w p l s s' n 127 hx h tk tv tl tc _ HT h34 h0 (Lib.hid fun w b hm => piece_127 hm) (run_enter Tryd.func127 (by kernel_rfl) rfl) (Lib.hid fun W4 hu hx4 hR4 => paren_calls W4 p l s s' n (formulaP l (operandP l d)) hx4 hR4 hd hk0 (hfm.upto hu) he)
        rw [if_neg e127] at he
        exact operand_none w p l s s' n hx h tk tv tl tc tx HT hd h34 (Lib.hid fun w b hm => piece_no hm tx (by omega) (by
          intro q hq e
          simp only [pieceL, List.mem_cons, List.not_mem_nil, or_false] at hq
          rcases hq with rfl | rfl | rfl | rfl | rfl | rfl | rfl | rfl
          · exact e116 (sb_inj e).symm
          · exact e117 (sb_inj e).symm
          · exact e118 (sb_inj e).symm
          · exact e120 (sb_inj e).symm
          · exact e121 (sb_inj e).symm
          · exact e124 (sb_inj e).symm
          · exact e126 (sb_inj e).symm
          · exact e127 (sb_inj e).symm)) he
      · rw [if_neg (fun hh => h0 hh.2)] at he
        by_cases e116 : tx = [116, 114, 117, 101]
        · subst e116
          exact operand_err w p l s s' n 116 hx h tk tv tl tc _ HT hd h34 h0 (Lib.hid fun w b hm => piece_116 hm) he
        by_cases e117 : tx = [102, 97, 108, 115, 101]
        · subst e117
          exact operand_err w p l s s' n 117 hx h tk tv tl tc _ HT hd h34 h0 (Lib.hid fun w b hm => piece_117 hm) he
        by_cases e118 : tx = [115, 105, 122, 101]
        · subst e118
          exact operand_err w p l s s' n 118 hx h tk tv tl tc _ HT hd h34 h0 (Lib.hid fun w b hm => piece_118 hm) he
        by_cases e120 : tx = [111, 110, 101]
        · subst e120
          exact operand_err w p l s s' n 120 hx h tk tv tl tc _ HT hd h34 h0 (Lib.hid fun w b hm => piece_120 hm) he
        by_cases e121 : tx = [110, 111, 116]
        · subst e121
          exact operand_err w p l s s' n 121 hx h tk tv tl tc _ HT hd h34 h0 (Lib.hid fun w b hm => piece_121 hm) he
        by_cases e124 : tx = [115, 111, 109, 101]
        · subst e124
          exact operand_err w p l s s' n 124 hx h tk tv tl tc _ HT hd h34 h0 (Lib.hid fun w b hm => piece_124 hm) he
        by_cases e126 : tx = [101, 118, 101, 114, 121]
        · subst e126
          exact operand_err w p l s s' n 126 hx h tk tv tl tc _ HT hd h34 h0 (Lib.hid fun w b hm => piece_126 hm) he
        by_cases e127 : tx = [40]
        · subst e127
          exact operand_err w p l s s' n 127 hx h tk tv tl tc _ HT hd h34 h0 (Lib.hid fun w b hm => piece_127 hm) he
        exact operand_none w p l s s' n hx h tk tv tl tc tx HT hd h34 (Lib.hid fun w b hm => piece_no hm tx (by omega) (by
          intro q hq e
          simp only [pieceL, List.mem_cons, List.not_mem_nil, or_false] at hq
          rcases hq with rfl | rfl | rfl | rfl | rfl | rfl | rfl | rfl
          · exact e116 (sb_inj e).symm
          · exact e117 (sb_inj e).symm
          · exact e118 (sb_inj e).symm
          · exact e120 (sb_inj e).symm
          · exact e121 (sb_inj e).symm
          · exact e124 (sb_inj e).symm
          · exact e126 (sb_inj e).symm
          · exact e127 (sb_inj e).symm)) he
    · rw [if_neg (fun hh => h34 hh.1)] at he
      exact operand_other w p l s s' n hx h tk tv tl tc tx HT hd (by omega) (by omega) he

/-- formula, at the outermost level -/
theorem whole_calls (p : Nat) (l : List Tok) (htx : ∀ t ∈ l, t.text.length ≤ 65536) (w : World) (s : PS) (n : Nd) (s' : PS) (hx : Cx w p l) (h : RdAt w p l s) (hd : s.dp ≤ 256) (he : wholeP l s = some (n, s')) : Calls Tryd.prog 52 #[.pointer (some ⟨p, 0, none⟩)] w (RdPost w p l s n s') := by
  have hop : Rdr w p l 103 #[.pointer (some ⟨p, 0, none⟩)] (operandP l 257) := fun w1 s1 n1 s2 hu hR hd1 he1 => operand_calls p l htx 257 w1 s1 n1 s2 (hx.upto hu) hR hd1 he1
  have him : Rdr w p l 76 #[.pointer (some ⟨p, 0, none⟩)] (impliesP l (operandP l 257)) := fun w1 s1 n1 s2 hu hR hd1 he1 => implies_calls w1 p l s1 s2 n1 (operandP l 257) (hx.upto hu) hR hd1 (hop.upto hu) he1
  exact formula_calls w p l s s' n (operandP l 257) hx h hd him he
end Go.Proofs.YtkhbpebpljdifaaDoor

/- Size, Depth, great. -/
namespace Go.Proofs.YtkhbpebpljdifaaDoor
open Go.RowKit Go.PL Go.Maps

theorem sizes_len : ∀ l : List Nd, l.length ≤ sizesF l
  | [] => by simp
  | x :: xs => by have := sizes_len xs; have := sizeF_pos x; simp only [List.length_cons, sizesF]; omega
set_option maxRecDepth 100000 in
set_option maxHeartbeats 6400000 in
theorem sizeN_calls : ∀ (k : Nat) (nd : Nd), sizeF nd ≤ k → k ≤ 10000000 → ∀ (v : Value) (w : World) (P : Nat → Prop), NdV w P nd v → Calls Tryd.prog 90 #[v] w fun e w' => e = .returned (.int .i64 (sizeF nd)) ∧ Upto [] w w'
  | 0, nd, hk, _, _, _, _, _ => by have := sizeF_pos nd; omega
  | k + 1, .mk op nms so nn mm l, hk, hk7, v, w, P, h => by
    unfold NdV at h
    obtain ⟨vn, vl, rfl, h1, h2⟩ := h
    obtain ⟨n1, n3, rfl⟩ := h1.len
    obtain ⟨av, cv, hvl, hg⟩ : ∃ av cv, vl = .slice av l.length cv ∧ ∀ i x, l[i]? = some x → ∃ g o v0 v1 v2 v3 v4 v5, av = some ⟨g, o, none⟩ ∧ w.cell? ⟨g, o + i * 6, none⟩ = some v0 ∧ w.cell? ⟨g, o + i * 6 + 1, none⟩ = some v1 ∧ w.cell? ⟨g, o + i * 6 + 2, none⟩ = some v2 ∧ w.cell? ⟨g, o + i * 6 + 3, none⟩ = some v3 ∧ w.cell? ⟨g, o + i * 6 + 4, none⟩ = some v4 ∧ w.cell? ⟨g, o + i * 6 + 5, none⟩ = some v5 ∧ NdV w P x (.agg #[v0, v1, v2, v3, v4, v5]) := by
      rcases h2 with ⟨rfl, a, c, rfl⟩ | ⟨g, o, c, rfl, -, h3⟩
      · exact ⟨a, c, rfl, fun i x h => by simp at h⟩
      · exact ⟨_, c, rfl, fun i x hi => by
          obtain ⟨v0, v1, v2, v3, v4, v5, h⟩ := h3.get l o i x hi
          exact ⟨g, o, v0, v1, v2, v3, v4, v5, rfl, h⟩⟩
    subst hvl
    have HG := Lib.hid hg
    have hsz : sizesF l ≤ k := by simp only [sizeF] at hk; omega
    have HSZ := Lib.hid hsz
    have HE : Hid (sizeF (.mk op nms so nn mm l) = 1 + sizesF l) := Lib.hid (by simp only [sizeF])
    have HLEN : Hid (l.length ≤ 10000000) := Lib.hid (by have := sizes_len l; omega)
    have hlen := HLEN.out
    generalize hll : l.length = ll at *
    have HLL := Lib.hid hll
    have hL0 : (0 : Int) ≤ ll := by omega
    have hL1 : (ll : Int) ≤ 10000000 := by omega
    clear h1 h2 hg hsz hll hlen hk
    go_enter Tryd.func90, Tryd.ntmps90
    go_wp2_with fail
    go_loopw [3, 9] (fun s i wr => ∃ j : Nat, j ≤ ll ∧ i = .int .i64 j ∧ s = .int .i64 (1 + (sizesF (l.take j) : Int)) ∧ Hid (Upto [] w wr)) (fun _ i _ => ll - (intOf i).toNat)
    case atStart => exact ⟨0, by omega, rfl, by simp [sizesF], Lib.hid ((Upto.refl [] w).alloc _)⟩
    case round =>
      obtain ⟨j, hj, rfl, rfl, HU⟩ := hrel
      rcases Nat.lt_or_ge j ll with hlt | hge
      · obtain ⟨x, hx⟩ : ∃ x, l[j]? = some x := ⟨_, List.getElem?_eq_getElem (by have := HLL.out; omega)⟩
        obtain ⟨g, o, v0, v1, v2, v3, v4, v5, rfl, c0, c1, c2, c3, c4, c5, hnx⟩ := HG.out j x hx
        obtain ⟨xo, xn1, xn2, xn3, xs, xm, xq, xl1, xl2, xl3, hsix⟩ := hnx.six
        simp only [Value.agg.injEq, Array.mk.injEq, List.cons.injEq, and_true] at hsix
        obtain ⟨rfl, rfl, rfl, rfl, rfl, rfl⟩ := hsix
        have hlb := World.block_lt_of_cell? w _ c0
        replace c0 := (HU.out.cell (p := ⟨g, o + j * 6, none⟩) hlb (by simp)).trans c0
        replace c1 := (HU.out.cell (p := ⟨g, o + j * 6 + 1, none⟩) hlb (by simp)).trans c1
        replace c2 := (HU.out.cell (p := ⟨g, o + j * 6 + 2, none⟩) hlb (by simp)).trans c2
        replace c3 := (HU.out.cell (p := ⟨g, o + j * 6 + 3, none⟩) hlb (by simp)).trans c3
        replace c4 := (HU.out.cell (p := ⟨g, o + j * 6 + 4, none⟩) hlb (by simp)).trans c4
        replace c5 := (HU.out.cell (p := ⟨g, o + j * 6 + 5, none⟩) hlb (by simp)).trans c5
        have hst := sizesF_take l j x hx
        have HST := Lib.hid hst
        have hua : Upto [] wr (wr.alloc (.cells #[.int .i64 xo, .slice xn1 xn2 xn3, .int .i64 xs, .int .i64 xm, .int .i64 xq, .slice xl1 xl2 xl3] 59)) := (Upto.refl [] wr).alloc _
        have HC := Lib.hid (sizeN_calls k x (by have := HSZ.out; omega) (by omega) _ (wr.alloc (.cells #[.int .i64 xo, .slice xn1 xn2 xn3, .int .i64 xs, .int .i64 xm, .int .i64 xq, .slice xl1 xl2 xl3] 59)) P ((hnx.ext HU.out).ext hua))
        have HUA := Lib.hid (HU.out.trans_ext hua)
        have hltI : (j : Int) < ll := by omega
        have hj0 : (0 : Int) ≤ j := by omega
        have hb1 := HSZ.out
        have hb2 := sizeF_pos x
        have hb3 := depth_le_size x
        have hb4 := depths_le_sizes (l.take j)
        generalize hA : sizesF (l.take j) = A at *
        generalize hB : sizeF x = B at *
        have hA0 : (0 : Int) ≤ A := by omega
        have hA1 : (A : Int) ≤ 10000000 := by omega
        have hB0 : (0 : Int) ≤ B := by omega
        have hB1 : (B : Int) ≤ 10000000 := by omega
        have HAB := Lib.hid (And.intro hA hB)
        clear hst hua hnx hlb hx hb1 hb2 hb3 hb4 hA hB
        go_wp2_with fail
        refine HC.out.mono ?_
        rintro e w5 ⟨rfl, hu5⟩
        have HU5 := Lib.hid (HUA.out.trans_ext hu5)
        clear hu5
        go_wp2_with fail
        go_roundw
        case rel => exact ⟨j + 1, by omega, by go_num, by rw [HST.out.1]; congr 1; omega, HU5⟩
        case measure => simp [intOf]; omega
      · obtain rfl : j = ll := by omega
        have hgeI : (j : Int) ≥ j := by omega
        have HT : Hid (l.take j = l) := Lib.hid (by rw [← HLL.out, List.take_length])
        rw [HT.out]
        have hq1 := HSZ.out
        have hq2 := depths_le_sizes l
        generalize hA : sizesF l = A at *
        have hA0 : (0 : Int) ≤ A := by omega
        have hA1 : (A : Int) ≤ 10000000 := by omega
        have HA := Lib.hid hA
        clear hq1 hq2 hA
        go_wp2
        go_ret
        exact ⟨by rw [HE.out]; exact ret_int (by omega), HU.out⟩

set_option maxRecDepth 100000 in
set_option maxHeartbeats 6400000 in
theorem depthN_calls : ∀ (k : Nat) (nd : Nd), sizeF nd ≤ k → k ≤ 10000000 → ∀ (v : Value) (w : World) (P : Nat → Prop), NdV w P nd v → Calls Tryd.prog 91 #[v] w fun e w' => e = .returned (.int .i64 (depthF nd)) ∧ Upto [] w w'
  | 0, nd, hk, _, _, _, _, _ => by have := sizeF_pos nd; omega
  | k + 1, .mk op nms so nn mm l, hk, hk7, v, w, P, h => by
    unfold NdV at h
    obtain ⟨vn, vl, rfl, h1, h2⟩ := h
    obtain ⟨n1, n3, rfl⟩ := h1.len
    obtain ⟨av, cv, hvl, hg⟩ : ∃ av cv, vl = .slice av l.length cv ∧ ∀ i x, l[i]? = some x → ∃ g o v0 v1 v2 v3 v4 v5, av = some ⟨g, o, none⟩ ∧ w.cell? ⟨g, o + i * 6, none⟩ = some v0 ∧ w.cell? ⟨g, o + i * 6 + 1, none⟩ = some v1 ∧ w.cell? ⟨g, o + i * 6 + 2, none⟩ = some v2 ∧ w.cell? ⟨g, o + i * 6 + 3, none⟩ = some v3 ∧ w.cell? ⟨g, o + i * 6 + 4, none⟩ = some v4 ∧ w.cell? ⟨g, o + i * 6 + 5, none⟩ = some v5 ∧ NdV w P x (.agg #[v0, v1, v2, v3, v4, v5]) := by
      rcases h2 with ⟨rfl, a, c, rfl⟩ | ⟨g, o, c, rfl, -, h3⟩
      · exact ⟨a, c, rfl, fun i x h => by simp at h⟩
      · exact ⟨_, c, rfl, fun i x hi => by
          obtain ⟨v0, v1, v2, v3, v4, v5, h⟩ := h3.get l o i x hi
          exact ⟨g, o, v0, v1, v2, v3, v4, v5, rfl, h⟩⟩
    subst hvl
    have HG := Lib.hid hg
    have hsz : sizesF l ≤ k := by simp only [sizeF] at hk; omega
    have HSZ := Lib.hid hsz
    have HE : Hid (depthF (.mk op nms so nn mm l) = depthsF l + 1) := Lib.hid (by simp only [depthF])
    have HLEN : Hid (l.length ≤ 10000000) := Lib.hid (by have := sizes_len l; omega)
    have hlen := HLEN.out
    generalize hll : l.length = ll at *
    have HLL := Lib.hid hll
    have hL0 : (0 : Int) ≤ ll := by omega
    have hL1 : (ll : Int) ≤ 10000000 := by omega
    clear h1 h2 hg hsz hll hlen hk
    go_enter Tryd.func91, Tryd.ntmps91
    go_wp2_with fail
    go_loopw [3, 9] (fun s i wr => ∃ j : Nat, j ≤ ll ∧ i = .int .i64 j ∧ s = .int .i64 ((depthsF (l.take j) : Int)) ∧ Hid (Upto [] w wr)) (fun _ i _ => ll - (intOf i).toNat)
    case atStart => exact ⟨0, by omega, rfl, by simp [depthsF], Lib.hid ((Upto.refl [] w).alloc _)⟩
    case round =>
      obtain ⟨j, hj, rfl, rfl, HU⟩ := hrel
      rcases Nat.lt_or_ge j ll with hlt | hge
      · obtain ⟨x, hx⟩ : ∃ x, l[j]? = some x := ⟨_, List.getElem?_eq_getElem (by have := HLL.out; omega)⟩
        obtain ⟨g, o, v0, v1, v2, v3, v4, v5, rfl, c0, c1, c2, c3, c4, c5, hnx⟩ := HG.out j x hx
        obtain ⟨xo, xn1, xn2, xn3, xs, xm, xq, xl1, xl2, xl3, hsix⟩ := hnx.six
        simp only [Value.agg.injEq, Array.mk.injEq, List.cons.injEq, and_true] at hsix
        obtain ⟨rfl, rfl, rfl, rfl, rfl, rfl⟩ := hsix
        have hlb := World.block_lt_of_cell? w _ c0
        replace c0 := (HU.out.cell (p := ⟨g, o + j * 6, none⟩) hlb (by simp)).trans c0
        replace c1 := (HU.out.cell (p := ⟨g, o + j * 6 + 1, none⟩) hlb (by simp)).trans c1
        replace c2 := (HU.out.cell (p := ⟨g, o + j * 6 + 2, none⟩) hlb (by simp)).trans c2
        replace c3 := (HU.out.cell (p := ⟨g, o + j * 6 + 3, none⟩) hlb (by simp)).trans c3
        replace c4 := (HU.out.cell (p := ⟨g, o + j * 6 + 4, none⟩) hlb (by simp)).trans c4
        replace c5 := (HU.out.cell (p := ⟨g, o + j * 6 + 5, none⟩) hlb (by simp)).trans c5
        have hst := sizesF_take l j x hx
        have HST := Lib.hid hst
        have HXX := Lib.hid hx
        have hua : Upto [] wr (wr.alloc (.cells #[.int .i64 xo, .slice xn1 xn2 xn3, .int .i64 xs, .int .i64 xm, .int .i64 xq, .slice xl1 xl2 xl3] 59)) := (Upto.refl [] wr).alloc _
        have HC := Lib.hid (depthN_calls k x (by have := HSZ.out; omega) (by omega) _ (wr.alloc (.cells #[.int .i64 xo, .slice xn1 xn2 xn3, .int .i64 xs, .int .i64 xm, .int .i64 xq, .slice xl1 xl2 xl3] 59)) P ((hnx.ext HU.out).ext hua))
        have HUA := Lib.hid (HU.out.trans_ext hua)
        have hltI : (j : Int) < ll := by omega
        have hj0 : (0 : Int) ≤ j := by omega
        have hb1 := HSZ.out
        have hb2 := sizeF_pos x
        have hb3 := depth_le_size x
        have hb4 := depths_le_sizes (l.take j)
        generalize hA : depthsF (l.take j) = A at *
        generalize hB : depthF x = B at *
        have hA0 : (0 : Int) ≤ A := by omega
        have hA1 : (A : Int) ≤ 10000000 := by omega
        have hB0 : (0 : Int) ≤ B := by omega
        have hB1 : (B : Int) ≤ 10000000 := by omega
        have HAB := Lib.hid (And.intro hA hB)
        clear hst hua hnx hlb hx hb1 hb2 hb3 hb4 hA hB
        have HMX : Hid (depthsF (l.take (j + 1)) = max A B) := Lib.hid (by rw [depthsF_take l j x HXX.out, HAB.out.1, HAB.out.2])
        rcases Nat.lt_or_ge A B with hab | hab
        · have habI : (A : Int) < B := by omega
          have hmx : max (A : Int) B = B := by omega
          go_wp2_with fail
          refine HC.out.mono ?_
          rintro e w5 ⟨rfl, hu5⟩
          have HU5 := Lib.hid (HUA.out.trans_ext hu5)
          clear hu5
          go_wp2_with fail
          go_roundw
          case rel => exact ⟨j + 1, by omega, by go_num, by rw [HMX.out]; first | rfl | (congr 1; omega), HU5⟩
          case measure => simp [intOf]; omega
        · have habI : (B : Int) ≤ A := by omega
          have hmx : max (A : Int) B = A := by omega
          go_wp2_with fail
          refine HC.out.mono ?_
          rintro e w5 ⟨rfl, hu5⟩
          have HU5 := Lib.hid (HUA.out.trans_ext hu5)
          clear hu5
          go_wp2_with fail
          go_roundw
          case rel => exact ⟨j + 1, by omega, by go_num, by rw [HMX.out]; first | rfl | (congr 1; omega), HU5⟩
          case measure => simp [intOf]; omega
      · obtain rfl : j = ll := by omega
        have hgeI : (j : Int) ≥ j := by omega
        have HT : Hid (l.take j = l) := Lib.hid (by rw [← HLL.out, List.take_length])
        rw [HT.out]
        have hq1 := HSZ.out
        have hq2 := depths_le_sizes l
        generalize hA : depthsF l = A at *
        have hA0 : (0 : Int) ≤ A := by omega
        have hA1 : (A : Int) ≤ 10000000 := by omega
        have HA := Lib.hid hA
        clear hq1 hq2 hA
        go_wp2
        go_ret
        exact ⟨by rw [HE.out]; exact ret_int (by omega), HU.out⟩

set_option maxRecDepth 100000 in
set_option maxHeartbeats 6400000 in
theorem great_calls (nd : Nd) (v : Value) (w : World) (P : Nat → Prop) (h : NdV w P nd v) (hk : sizeF nd ≤ 10000000) : Calls Tryd.prog 74 #[v] w fun e w' => e = .returned (.int .i64 (greatF nd)) ∧ Upto [] w w' := by
  obtain ⟨xo, xn1, xn2, xn3, xs, xm, xq, xl1, xl2, xl3, rfl⟩ := h.six
  have hua : Upto [] w (w.alloc (.cells #[.int .i64 xo, .slice xn1 xn2 xn3, .int .i64 xs, .int .i64 xm, .int .i64 xq, .slice xl1 xl2 xl3] 59)) := (Upto.refl [] w).alloc _
  have HS := Lib.hid (sizeN_calls _ nd hk (Nat.le_refl _) _ _ P (h.ext hua))
  have HN := Lib.hid h
  have HUA := Lib.hid hua
  have HNB := Lib.hid (new_at w (.cells #[.int .i64 xo, .slice xn1 xn2 xn3, .int .i64 xs, .int .i64 xm, .int .i64 xq, .slice xl1 xl2 xl3] 59))
  have hd := depth_le_size nd
  clear h hua
  by_cases h1 : 4096 < sizeF nd
  · have hI : (4096 : Int) < sizeF nd := by omega
    have HE : Hid (greatF nd = 8) := Lib.hid (by unfold greatF; rw [if_pos h1])
    go_enter Tryd.func74, Tryd.ntmps74
    go_wp2_with fail
    refine HS.out.mono ?_
    rintro e w2 ⟨rfl, hu2⟩
    have HU2 := Lib.hid (HUA.out.trans_ext hu2)
    clear hu2
    go_wp2_with fail
    go_ret
    exact ⟨by rw [HE.out]; rfl, HU2.out⟩
  · have hI : ¬ (4096 : Int) < sizeF nd := by omega
    have hI2 : (sizeF nd : Int) ≤ 4096 := by omega
    by_cases h2 : 256 < depthF nd
    · have hJ : (256 : Int) < depthF nd := by omega
      have HE : Hid (greatF nd = 16) := Lib.hid (by unfold greatF; rw [if_neg h1, if_pos h2])
      go_enter Tryd.func74, Tryd.ntmps74
      go_wp2_with fail
      refine HS.out.mono ?_
      rintro e w2 ⟨rfl, hu2⟩
      have hb2 := hu2.at HNB.out (by simp)
      have x0 := cell_of hb2 0
      have x1 := cell_of hb2 1
      have x2 := cell_of hb2 2
      have x3 := cell_of hb2 3
      have x4 := cell_of hb2 4
      have x5 := cell_of hb2 5
      have y0 := free_of hb2 0
      have y1 := free_of hb2 1
      have y2 := free_of hb2 2
      have y3 := free_of hb2 3
      have y4 := free_of hb2 4
      have y5 := free_of hb2 5
      simp only [List.getElem?_toArray, List.getElem?_cons_zero, List.getElem?_cons_succ] at x0 x1 x2 x3 x4 x5
      have HU2 := Lib.hid (HUA.out.trans_ext hu2)
      have HD := Lib.hid (depthN_calls _ nd hk (Nat.le_refl _) _ w2 P (HN.out.ext HU2.out))
      clear hu2 hb2
      go_wp2_with fail
      refine HD.out.mono ?_
      rintro e w3 ⟨rfl, hu3⟩
      have HU3 := Lib.hid (HU2.out.trans_ext hu3)
      clear hu3
      go_wp2_with fail
      go_ret
      exact ⟨by rw [HE.out]; rfl, HU3.out⟩
    · have hJ : ¬ (256 : Int) < depthF nd := by omega
      have hJ2 : (depthF nd : Int) ≤ 256 := by omega
      have HE : Hid (greatF nd = 0) := Lib.hid (by unfold greatF; rw [if_neg h1, if_neg h2])
      go_enter Tryd.func74, Tryd.ntmps74
      go_wp2_with fail
      refine HS.out.mono ?_
      rintro e w2 ⟨rfl, hu2⟩
      have hb2 := hu2.at HNB.out (by simp)
      have x0 := cell_of hb2 0
      have x1 := cell_of hb2 1
      have x2 := cell_of hb2 2
      have x3 := cell_of hb2 3
      have x4 := cell_of hb2 4
      have x5 := cell_of hb2 5
      have y0 := free_of hb2 0
      have y1 := free_of hb2 1
      have y2 := free_of hb2 2
      have y3 := free_of hb2 3
      have y4 := free_of hb2 4
      have y5 := free_of hb2 5
      simp only [List.getElem?_toArray, List.getElem?_cons_zero, List.getElem?_cons_succ] at x0 x1 x2 x3 x4 x5
      have HU2 := Lib.hid (HUA.out.trans_ext hu2)
      have HD := Lib.hid (depthN_calls _ nd hk (Nat.le_refl _) _ w2 P (HN.out.ext HU2.out))
      clear hu2 hb2
      go_wp2_with fail
      refine HD.out.mono ?_
      rintro e w3 ⟨rfl, hu3⟩
      have HU3 := Lib.hid (HU2.out.trans_ext hu3)
      clear hu3
      go_wp2_with fail
      go_ret
      exact ⟨by rw [HE.out]; rfl, HU3.out⟩
end Go.Proofs.YtkhbpebpljdifaaDoor

/- The reader of formulas: the free variables. -/
namespace Go.Proofs.YtkhbpebpljdifaaDoor
open Go.RowKit Go.PL Go.Maps

/-- a free variable's cells -/
def varC (o : List UInt8 × Int) : List Value := [.string ⟨o.1.toArray⟩, .int .i64 o.2]
theorem vars_at {l : List (List UInt8 × Int)} {i : Nat} {x : List UInt8 × Int} (h : l[i]? = some x) : (l.flatMap varC)[i * 2]? = some (.string ⟨x.1.toArray⟩) ∧ (l.flatMap varC)[i * 2 + 1]? = some (.int .i64 x.2) :=
  ⟨flatMap_at varC 2 (fun _ => rfl) l i 0 x h (by decide), flatMap_at varC 2 (fun _ => rfl) l i 1 x h (by decide)⟩

set_option maxRecDepth 100000 in
set_option maxHeartbeats 1600000 in
theorem free1_calls (a tx : List UInt8) (q : Int) (tk tv tl tc Bt : Nat) (w : World) (hb : w.heap[Bt]? = some (.cells #[.int .i64 tk, .string ⟨tx.toArray⟩, .int .i64 tv, .int .i64 tl, .int .i64 tc] 36 (0, 0))) : Calls Tryd.prog 80 #[.agg #[.string ⟨a.toArray⟩, .int .i64 q], .pointer (some ⟨Bt, 0, none⟩)] w fun e w' => e = .returned (.bool (decide (a = tx))) ∧ Upto [] w w' := by
  have hu : Upto [] w (w.alloc (.cells #[.string ⟨a.toArray⟩, .int .i64 q] 92)) := (Upto.refl [] w).alloc _
  have c1 := cell_of (hu.at hb (by simp)) 1
  simp only [List.getElem?_toArray, List.getElem?_cons_zero, List.getElem?_cons_succ] at c1
  by_cases h : a = tx
  · have k1 : (a == tx) = true := by simp [h]
    have HE : Hid (decide (a = tx) = true) := Lib.hid (by simp [h])
    clear h hb
    go_enter Tryd.func80, Tryd.ntmps80
    go_wp2_with fail
    go_ret
    exact ⟨by rw [HE.out]; rfl, hu⟩
  · have k1 : (a == tx) = false := by simp [h]
    have HE : Hid (decide (a = tx) = false) := Lib.hid (by simp [h])
    clear h hb
    go_enter Tryd.func80, Tryd.ntmps80
    go_wp2_with fail
    go_ret
    exact ⟨by rw [HE.out]; rfl, hu⟩

set_option maxRecDepth 100000 in
set_option maxHeartbeats 3200000 in
theorem index_calls (out : List (List UInt8 × Int)) (tx : List UInt8) (tk tv tl tc Bt : Nat) (v : Value) (w : World) (hl : out.length ≤ 1000000) (hr : w.ownsRow 0 92 2 v out.length (out.flatMap varC)) (hb : w.heap[Bt]? = some (.cells #[.int .i64 tk, .string ⟨tx.toArray⟩, .int .i64 tv, .int .i64 tl, .int .i64 tc] 36 (0, 0))) :
    Calls Tryd.prog 95 #[v, .func (.func 80) #[] #[.pointer (some ⟨Bt, 0, none⟩)]] w fun e w' => (∃ z : Int, e = .returned (.int .i64 z) ∧ (0 ≤ z ↔ (out.any fun o => decide (o.1 = tx)) = true)) ∧ Upto [] w w' := by
  obtain ⟨va, vc, rfl, hva⟩ := ownsRow_len hr
  have hg : Hid (∀ i x, out[i]? = some x → ∃ g, va = some ⟨g, 0, none⟩ ∧ w.cell? ⟨g, i * 2, none⟩ = some (.string ⟨x.1.toArray⟩) ∧ w.cell? ⟨g, i * 2 + 1, none⟩ = some (.int .i64 x.2)) := Lib.hid (by
    intro i x hi
    have hin := (List.getElem?_eq_some_iff.1 hi).1
    rcases hr.2 with ⟨h1, h2⟩ | ⟨g, cap, cur, h1, _, hh, _, _, _, ht⟩
    · omega
    · simp at h1
      obtain ⟨rfl, rfl⟩ := h1
      have h2 := vars_at hi
      rw [← ht] at h2
      refine ⟨g, rfl, ?_, ?_⟩
      · rw [cell_of hh]
        have := h2.1
        rw [List.getElem?_take] at this
        split at this
        · simpa using this
        · cases this
      · rw [cell_of hh]
        have := h2.2
        rw [List.getElem?_take] at this
        split at this
        · simpa using this
        · cases this)
  have HB := Lib.hid hb
  clear hr hb hva
  generalize hll : out.length = ll at *
  have HLL := Lib.hid hll
  have hL0 : (0 : Int) ≤ ll := by omega
  have hL1 : (ll : Int) ≤ 1000000 := by omega
  clear hll
  go_enter Tryd.func95, Tryd.ntmps95
  go_wp2_with fail
  go_loopw [8] (fun i wr => ∃ j : Nat, j ≤ ll ∧ i = .int .i64 j ∧ Hid (Upto [] w wr ∧ ((out.take j).any fun o => decide (o.1 = tx)) = false)) (fun i _ => ll - (intOf i).toNat)
  case atStart => exact ⟨0, by omega, rfl, Lib.hid ⟨Upto.refl _ _, by simp⟩⟩
  case round =>
    obtain ⟨j, hj, rfl, HI⟩ := hrel
    rcases Nat.lt_or_ge j ll with hlt | hge
    · obtain ⟨x, hx⟩ : ∃ x, out[j]? = some x := ⟨_, List.getElem?_eq_getElem (by have := HLL.out; omega)⟩
      obtain ⟨g, rfl, c0, c1⟩ := hg.out j x hx
      have hlb := World.block_lt_of_cell? w _ c0
      replace c0 := (HI.out.1.cell (p := ⟨g, j * 2, none⟩) hlb (by simp)).trans c0
      replace c1 := (HI.out.1.cell (p := ⟨g, j * 2 + 1, none⟩) hlb (by simp)).trans c1
      have HC := Lib.hid (free1_calls x.1 tx x.2 tk tv tl tc Bt wr (HI.out.1.at HB.out (by simp)))
      have HS : Hid ((out.take (j + 1)).any (fun o => decide (o.1 = tx)) = decide (x.1 = tx)) := Lib.hid (by
        obtain ⟨h1, h2⟩ := List.getElem?_eq_some_iff.1 hx
        rw [List.take_succ_eq_append_getElem h1, List.any_append, HI.out.2, h2]
        simp)
      have HX := Lib.hid hx
      have hltI : (j : Int) < ll := by omega
      have hj0 : (0 : Int) ≤ j := by omega
      clear hx hlb
      cases hd : decide (x.1 = tx) with
      | true =>
        rw [hd] at HC HS
        have HANY : Hid ((out.any fun o => decide (o.1 = tx)) = true) := Lib.hid (by
          rw [List.any_eq_true]
          exact ⟨x, List.mem_of_getElem? HX.out, hd⟩)
        clear hd
        go_wp2_with fail
        refine HC.out.mono ?_
        rintro e w5 ⟨rfl, hu5⟩
        have HU5 := Lib.hid (HI.out.1.trans_ext hu5)
        clear hu5
        go_wp2_with fail
        go_ret
        exact ⟨⟨(j : Int), rfl, by rw [HANY.out]; simp⟩, HU5.out⟩
      | false =>
        rw [hd] at HC HS
        clear hd
        go_wp2_with fail
        refine HC.out.mono ?_
        rintro e w5 ⟨rfl, hu5⟩
        have HU5 := Lib.hid (HI.out.1.trans_ext hu5)
        clear hu5
        go_wp2_with fail
        go_roundw
        case rel => exact ⟨j + 1, by omega, by go_num, Lib.hid ⟨HU5.out, HS.out⟩⟩
        case measure => simp [intOf]; omega
    · obtain rfl : j = ll := by omega
      have hgeI : (j : Int) ≥ j := by omega
      have HANY : Hid ((out.any fun o => decide (o.1 = tx)) = false) := Lib.hid (by
        have := HI.out.2
        rwa [← HLL.out, List.take_length] at this)
      go_wp2
      go_ret
      exact ⟨⟨-1, rfl, by rw [HANY.out]; simp⟩, HI.out.1⟩

set_option maxRecDepth 100000 in
set_option maxHeartbeats 1600000 in
theorem contains_calls (out : List (List UInt8 × Int)) (tx : List UInt8) (tk tv tl tc Bt : Nat) (v : Value) (w : World) (hl : out.length ≤ 1000000) (hr : w.ownsRow 0 92 2 v out.length (out.flatMap varC)) (hb : w.heap[Bt]? = some (.cells #[.int .i64 tk, .string ⟨tx.toArray⟩, .int .i64 tv, .int .i64 tl, .int .i64 tc] 36 (0, 0))) :
    Calls Tryd.prog 79 #[v, .func (.func 80) #[] #[.pointer (some ⟨Bt, 0, none⟩)]] w fun e w' => e = .returned (.bool (out.any fun o => decide (o.1 = tx))) ∧ Upto [] w w' := by
  have HC := Lib.hid (index_calls out tx tk tv tl tc Bt v w hl hr hb)
  generalize (out.any fun o => decide (o.1 = tx)) = b at *
  clear hr hb
  go_enter Tryd.func79, Tryd.ntmps79
  go_wp2_with fail
  refine HC.out.mono ?_
  rintro e w2 ⟨⟨z, rfl, hz⟩, hu2⟩
  have HU := Lib.hid hu2
  cases b with
  | true =>
    have h0 : (0 : Int) ≤ z := hz.2 rfl
    clear hz hu2
    go_wp2_with fail
    go_ret
    exact ⟨rfl, HU.out⟩
  | false =>
    have h0 : ¬ (0 : Int) ≤ z := fun h => by have := hz.1 h; cases this
    clear hz hu2
    go_wp2_with fail
    go_ret
    exact ⟨by first | rfl | exact ret_bool (decide_eq_false (by omega)), HU.out⟩
end Go.Proofs.YtkhbpebpljdifaaDoor

/- The reader of formulas: the walk of free. -/
namespace Go.Proofs.YtkhbpebpljdifaaDoor
open Go.RowKit Go.PL Go.Maps

/-- what is held while the free variables are read -/
structure FrI (w : World) (p : Nat) (l : List Tok) (s t : PS) (out : List (List UInt8 × Int)) (v : Value) (wr : World) : Prop where
  rd : RdAt wr p l t
  up : Upto [p] w wr
  adv : Adv l s t
  row : wr.ownsRow 0 92 2 v out.length (out.flatMap varC)
  own : ∀ g, v.ownBlock = some g → w.heap.size ≤ g
  ne : p < w.heap.size
theorem FrI.go {w : World} {p : Nat} {l : List Tok} {s t t' : PS} {out : List (List UInt8 × Int)} {v : Value} {wr wr' : World} (h : FrI w p l s t out v wr) (hu : Upto [p] wr wr') (hR : RdAt wr' p l t') (ha : Adv l t t') : FrI w p l s t' out v wr' := by
  have h1 := h.ne
  exact ⟨hR, h.up.trans_same hu, h.adv.trans ha, ownsRow_upto h.row hu (fun g hg => by have := h.own g hg; simp; omega), h.own, h.ne⟩
theorem FrI.set {w : World} {p B : Nat} {l : List Tok} {s t : PS} {out : List (List UInt8 × Int)} {v : Value} {wr wr' : World} (h : FrI w p l s t out v wr) (hu : Upto [B] wr wr') (hB : p < B ∧ w.heap.size ≤ B) (hne : ∀ g, v.ownBlock = some g → g ≠ B) : FrI w p l s t out v wr' :=
  ⟨h.rd.above hu (fun k hk => by simp at hk; omega), h.up.trans hu (fun k hk => Or.inr (by simp at hk; omega)), h.adv, ownsRow_upto h.row hu (fun g hg => by simpa using hne g hg), h.own, h.ne⟩
theorem identR_er {l : List Tok} {s : PS} (h : (identR l s).2.er = 0) : s.er = 0 ∧ (tkAt l s).kind = 1 := by
  unfold identR at h
  by_cases hk : (tkAt l s).kind = 1
  · refine ⟨?_, hk⟩
    simp only [if_pos hk] at h
    by_cases h0 : s.er = 0
    · exact h0
    · simp only [if_neg h0] at h
      exact absurd h h0
  · simp only [if_neg hk, if_neg (wrongF_pos (by decide : (3 : Nat) ≠ 0) s)] at h
    exact absurd h (wrongF_pos (by decide) s)
theorem FrI.app {w : World} {p : Nat} {l : List Tok} {s t : PS} {out : List (List UInt8 × Int)} {v : Value} {wr w5 : World} {x : List UInt8 × Int} {b' : Option Addr} {c' : Nat} {o : Obj} (h : FrI w p l s t out v wr)
    (ho : w5.ownsRow 0 92 2 (.slice b' (out.length + 1) c') (out.length + 1) (out.flatMap varC ++ varC x)) (hu : Upto v.ownBlock.toList (wr.alloc o) w5) (hw : ∀ g, (Value.slice b' (out.length + 1) c').ownBlock = some g → v.ownBlock = some g ∨ (wr.alloc o).heap.size ≤ g) :
    FrI w p l s t (out ++ [x]) (.slice b' (out.length + 1) c') w5 := by
  have hua : Upto [] wr (wr.alloc o) := (Upto.refl [] wr).alloc _
  have hp := h.ne
  have hus := h.up.size
  have hvs : ∀ g ∈ v.ownBlock.toList, w.heap.size ≤ g := fun g hm => h.own g (Option.mem_toList.1 hm)
  refine ⟨(h.rd.ext hua).above hu (fun k hk => by have := hvs k hk; omega), (h.up.trans_ext hua).trans hu (fun k hk => Or.inr (hvs k hk)), h.adv, ?_, fun g hg => ?_, hp⟩
  · rw [List.length_append, List.flatMap_append]
    simpa using ho
  · rcases hw g hg with h1 | h1
    · exact h.own g h1
    · simp at h1; omega
/-- what reading the free variables comes to -/
def VarsV (w : World) (P : Nat → Prop) (v : Value) (out : List (List UInt8 × Int)) : Prop := SlP w P v out.length (out.flatMap varC)
def FrPost (w : World) (p : Nat) (l : List Tok) (s : PS) (r : List (List UInt8 × Int)) (s' : PS) (e : Ending) (w' : World) : Prop :=
  ∃ v, e = .returned v ∧ VarsV w' (New w) v r ∧ RdAt w' p l s' ∧ Upto [p] w w' ∧ Adv l s s'
theorem slP_rowN {w : World} {P : Nat → Prop} {e : TypeId} {z : Nat} {v : Value} {n : Nat} {xs : List Value} (h : w.ownsRow 0 e z v n xs) (hP : ∀ g, v.ownBlock = some g → P g) : SlP w P v n xs := by
  rcases h.2 with ⟨rfl, rfl⟩ | ⟨g, cap, cur, rfl, _, hh, _, _, _, ht⟩
  · exact Or.inl ⟨rfl, List.eq_nil_of_length_eq_zero (by simpa using h.1), none, 0, rfl⟩
  · refine Or.inr ⟨g, 0, cap, rfl, ⟨hP g rfl, _, _, _, hh⟩, ?_⟩
    intro j u hj
    rw [cell_of hh, Nat.zero_add]
    rw [← ht, List.getElem?_take] at hj
    split at hj
    · simpa using hj
    · cases hj
theorem FrI.post {w : World} {p : Nat} {l : List Tok} {s t : PS} {out : List (List UInt8 × Int)} {v : Value} {wr : World} (h : FrI w p l s t out v wr) : FrPost w p l s out t (.returned v) wr := ⟨v, rfl, slP_rowN h.row (fun g hg => h.own g hg), h.rd, h.up, h.adv⟩
theorem info92 : (Tryd.prog.info? 92).map (fun i => (i.zero, i.size, i.bytes)) = some (some (.agg #[.string ⟨#[]⟩, .int .i64 0]), 2, 24) := by kernel_rfl
theorem info92' : ∃ i, Tryd.prog.info? 92 = some i ∧ i.zero = some (.agg #[.string ⟨#[]⟩, .int .i64 0]) ∧ i.size = 2 ∧ i.bytes = 24 := by
  have h := info92
  cases hi : Tryd.prog.info? 92 with
  | none => rw [hi] at h; cases h
  | some i =>
    rw [hi] at h
    simp only [Option.map_some, Option.some.injEq, Prod.mk.injEq] at h
    exact ⟨i, rfl, h.1, h.2.1, h.2.2⟩
theorem two_at {w : World} {g : Nat} {v0 v1 : Value} {t : TypeId} {z : Nat × Nat} (h : w.heap[g]? = some (.cells #[v0, v1] t z)) : ∀ (j : Nat) u, [v0, v1][j]? = some u → w.cell? ((⟨g, 0, none⟩ : Addr).add j) = some u := by
  intro j u hj
  rw [Addr.add_lit, Nat.zero_add, cell_of h]
  simpa using hj

set_option maxRecDepth 100000 in
set_option maxHeartbeats 12800000 in
theorem free_calls (w : World) (p : Nat) (l : List Tok) (s s' : PS) (r : List (List UInt8 × Int)) (hx : Cx w p l) (h : RdAt w p l s) (he : freeP l s = some (r, s')) :
    Calls Tryd.prog 54 #[.pointer (some ⟨p, 0, none⟩)] w (FrPost w p l s r s') := by
  have hlen := hx.len
  have hin := h.inb
  have HF : Hid (Fin l) := Lib.hid h.fin
  have HX := Lib.hid hx
  have hp := h.lt
  have HC := Lib.hid (takes_calls w p l s [102, 105, 110, 100] h hlen)
  unfold freeP at he
  cases hv : isF l [102, 105, 110, 100] s with
  | false =>
    rw [hv] at HC he
    have HT : Hid ((takesF l [102, 105, 110, 100] s).2 = s) := Lib.hid (by unfold takesF; rw [hv]; rfl)
    simp at he
    obtain ⟨rfl, rfl⟩ := he
    clear hv hx h
    go_enter Tryd.func54, Tryd.ntmps54
    go_wp2_with fail
    refine HC.out.mono ?_
    rintro e w1 ⟨rfl, hR1, hu1⟩
    rw [HT.out] at hR1
    have HP := Lib.hid (show FrPost w p l s [] s (.returned (.slice none 0 0)) w1 from ⟨_, rfl, Or.inl ⟨rfl, rfl, none, 0, rfl⟩, hR1, hu1, Adv.refl hin⟩)
    clear hR1 hu1
    go_wp2_with fail
    go_ret
    exact HP.out
  | true =>
    rw [hv] at HC he
    simp only [if_true] at he
    have HT : Hid ((takesF l [102, 105, 110, 100] s).2 = stepF s) := Lib.hid (by unfold takesF; rw [if_pos hv])
    have HA := Lib.hid (Adv.step HF.out hin (isF_ne hv))
    have HE := Lib.hid he
    obtain ⟨i0, hi0, hz0, hz1, hz2⟩ := info92'
    clear hv hx h he
    go_enter Tryd.func54, Tryd.ntmps54
    go_wp2_with fail
    refine HC.out.mono ?_
    rintro e w1 ⟨rfl, hR1, hu1⟩
    rw [HT.out] at hR1
    have HL0 : Hid (∃ k out t v, freeLoop l k out t = some (r, s') ∧ v = .slice none 0 0 ∧ FrI w p l s t out v w1 ∧ out.length ≤ 8) := Lib.hid ⟨_, [], stepF s, _, HE.out, rfl, ⟨hR1, hu1, HA.out, World.ownsRow_nil _ _ _ _, (fun g hg => by cases hg), hp⟩, by simp⟩
    clear hR1 hu1 HC HT HE HA
    go_wp2_with fail
    go_loopw [3] (fun v3 wr => Hid (∃ k out t v, freeLoop l k out t = some (r, s') ∧ v = v3 ∧ FrI w p l s t out v wr ∧ out.length ≤ 8)) (fun _ wr => l.length - nxOf wr p)
    case atStart => exact HL0.out.elim fun k hk => hk.elim fun out ho => ho.elim fun t ht => ht.elim fun v hv => Lib.hid ⟨k, out, t, v, hv.1, hv.2.1, hv.2.2⟩
    case round =>
      obtain ⟨k, out, t, v, hl, rfl, hI, h8⟩ := hrel.out
      obtain ⟨va, vc, rfl, -⟩ := ownsRow_len hI.row
      clear hrel HL0
      cases k with
      | zero => unfold freeLoop at hl; cases hl
      | succ k =>
      unfold freeLoop at hl
      have HI := Lib.hid hI
      have HNX := Lib.hid hI.rd.nx
      obtain ⟨⟨vr, hb, -, -⟩, -, -⟩ := id hI.rd
      have b2 := cell_of hb 2
      unfold rdC at b2
      simp only [List.getElem?_toArray, List.getElem?_cons_zero, List.getElem?_cons_succ] at b2
      clear hb
      by_cases h0 : t.er = 0
      · have k0 : ((t.er : Int) == 0) = true := by simp [h0]
        rw [if_pos h0] at hl
        simp only at hl
        have HS := Lib.hid (sort_calls wr p l t (HX.out.upto hI.up) hI.rd)
        have hx8 : (0 : Int) ≤ out.length := by omega
        have H8 := Lib.hid h8
        obtain ⟨tk, tx, tv, tl, tc, hT⟩ : ∃ tk tx tv tl tc, tkAt l (sortP l t).2 = ⟨tk, tx, tv, tl, tc⟩ := ⟨_, _, _, _, _, rfl⟩
        have HTK := Lib.hid hT
        rw [hT] at hl
        simp only at hl
        clear hI hT
        by_cases h1 : tk = 1
        · have k1 : ((tk : Int) == 1) = true := by simp [h1]
          rw [if_pos h1] at hl
          by_cases h2 : out.length = 8
          · have k2 : ((out.length : Int) == 8) = true := by simp [h2]
            rw [if_pos h2] at hl
            have HL := Lib.hid hl
            clear hl h0 h1 h2
            go_wp2_with fail
            refine HS.out.mono ?_
            rintro e w2 ⟨rfl, hR2, hu2⟩
            have hI2 := HI.out.go hu2 hR2 (sortP_adv HF.out HI.out.rd.inb)
            have hua := (Upto.refl [] w2).alloc (.cells #[.string ⟨#[]⟩, .int .i64 (sortP l t).1] 92)
            have HI2 := Lib.hid (hI2.go (hua.mono (by simp)) (hR2.ext hua) (Adv.refl hI2.rd.inb))
            have HV2 : Hid ((w2.alloc (.cells #[.string ⟨#[]⟩, .int .i64 (sortP l t).1] 92)).heap[w2.heap.size]? = some (.cells #[.string ⟨#[]⟩, .int .i64 (sortP l t).1] 92 (0, 0))) := Lib.hid (new_at _ _)
            have HUW2 : Hid (w.heap.size ≤ w2.heap.size) := Lib.hid hI2.up.size
            have HPV : Hid (p < w2.heap.size) := Lib.hid (by have := hI2.up.size; have := hI2.ne; omega)
            have HOWN : Hid (∀ g, (Value.slice va out.length vc).ownBlock = some g → g ≠ w2.heap.size) := Lib.hid (fun g hg => by
              obtain ⟨cur, hh⟩ := ownsRow_block hI2.row hg
              have := lt_of_heap hh
              omega)
            have HSA := Lib.hid (sortP_adv HF.out HI.out.rd.inb)
            have HN := Lib.hid (next_calls (w2.alloc (.cells #[.string ⟨#[]⟩, .int .i64 (sortP l t).1] 92)) p l (sortP l t).2 HI2.out.rd)
            clear hR2 hu2 hI2 hua HS b2
            go_wp2_with fail
            refine HN.out.mono ?_
            rintro e w3 ⟨rfl, hu3⟩
            rw [HTK.out]
            unfold tkA
            have hub := (Upto.refl [] w3).alloc (.cells #[.int .i64 tk, .string ⟨tx.toArray⟩, .int .i64 tv, .int .i64 tl, .int .i64 tc] 36)
            have HI3 := Lib.hid ((HI2.out.go (hu3.mono (by simp)) (HI2.out.rd.ext hu3) (Adv.refl HI2.out.rd.inb)).go (hub.mono (by simp)) ((HI2.out.rd.ext hu3).ext hub) (Adv.refl HI2.out.rd.inb))
            have HT3 : Hid ((w3.alloc (.cells #[.int .i64 tk, .string ⟨tx.toArray⟩, .int .i64 tv, .int .i64 tl, .int .i64 tc] 36)).heap[w3.heap.size]? = some (.cells #[.int .i64 tk, .string ⟨tx.toArray⟩, .int .i64 tv, .int .i64 tl, .int .i64 tc] 36 (0, 0))) := Lib.hid (new_at _ _)
            have HV3 := Lib.hid (hub.at (hu3.at HV2.out (by simp)) (by simp))
            clear hu3 hub HN HV2
            go_wp2_with fail
            refine (wrong_calls _ p 8 l (sortP l t).2 HI3.out.rd).mono ?_
            rintro e w4 ⟨rfl, hR4, hu4⟩
            have HI4 := Lib.hid (HI3.out.go hu4 hR4 (Adv.wrong HI3.out.rd.inb 8))
            have HV4 := Lib.hid (hu4.at HV3.out (by have := HPV.out; simp; omega))
            clear hR4 hu4
            go_wp2_with fail
            refine (name_calls _ p l (wrongF 8 (sortP l t).2) HI4.out.rd hlen).mono ?_
            rintro e w5 ⟨rfl, hR5, hu5⟩
            have hI5 := HI4.out.go hu5 hR5 (identR_adv HF.out HI4.out.rd.inb).1
            have hv5 := hu5.at HV4.out (by have := HPV.out; simp; omega)
            have ca0 := cell_of hv5 0
            have ca1 := cell_of hv5 1
            have fa0 := free_of hv5 0
            have fa1 := free_of hv5 1
            simp only [List.getElem?_toArray, List.getElem?_cons_zero, List.getElem?_cons_succ] at ca0 ca1
            have hs6 := (Upto.refl [w2.heap.size] w5).setCell (p := ⟨w2.heap.size, 0, none⟩) (Or.inl (by simp)) (.string ⟨(identR l (wrongF 8 (sortP l t).2)).1.toArray⟩)
            have hv6 := set_same hv5 0 (.string ⟨(identR l (wrongF 8 (sortP l t).2)).1.toArray⟩)
            simp only [List.setIfInBounds_toArray, List.set_cons_zero, List.set_cons_succ] at hv6
            have cb0 := cell_of hv6 0
            have cb1 := cell_of hv6 1
            have fb0 := free_of hv6 0
            have fb1 := free_of hv6 1
            simp only [List.getElem?_toArray, List.getElem?_cons_zero, List.getElem?_cons_succ] at cb0 cb1
            have HI6 := Lib.hid (hI5.set hs6 (by have h1 := HPV.out; have h2 := hI5.ne; have h3 := HUW2.out; omega) HOWN.out)
            have hnx : ((w5.setCell ⟨w2.heap.size, 0, none⟩ (.string ⟨(identR l (wrongF 8 (sortP l t).2)).1.toArray⟩)).alloc (.cells #[.string ⟨(identR l (wrongF 8 (sortP l t).2)).1.toArray⟩, .int .i64 (sortP l t).1] 92)).heap[w5.heap.size]? = some (.cells #[.string ⟨(identR l (wrongF 8 (sortP l t).2)).1.toArray⟩, .int .i64 (sortP l t).1] 92 (0, 0)) := by
              have := new_at (w5.setCell ⟨w2.heap.size, 0, none⟩ (.string ⟨(identR l (wrongF 8 (sortP l t).2)).1.toArray⟩)) (.cells #[.string ⟨(identR l (wrongF 8 (sortP l t).2)).1.toArray⟩, .int .i64 (sortP l t).1] 92)
              simpa [World.setCell] using this
            have HNX6 := Lib.hid hnx
            have h8b := H8.out
            clear hR5 hu5 hI5 hv5 hs6 hv6 hnx
            go_wp2_with (at_builtin
                         refine wpList_app _ rfl (.tmp 37) (.tmp 39) 65 rfl 92 i0 (.agg #[.string ⟨#[]⟩, .int .i64 0]) 2 24 Tryd.underlying65 hi0 hz0 hz1 hz2 rfl (by decide) (.slice va out.length vc) out.length (out.flatMap varC) rfl (HI6.out.row.alloc _) ⟨w5.heap.size, 0, none⟩ 1 1 [.string ⟨(identR l (wrongF 8 (sortP l t).2)).1.toArray⟩, .int .i64 (sortP l t).1] rfl rfl (two_at HNX6.out) (by simp [Value.oneCell']) (by unfold maxLen; omega) (by omega) ?_
                         intro b7 c7 w7 ho7 hu7 hw7)
            have HI7 := Lib.hid (FrI.app (x := ((identR l (wrongF 8 (sortP l t).2)).1, (sortP l t).1)) HI6.out ho7 hu7 hw7)
            clear ho7 hu7 hw7
            cases hc : isF l [44] (identR l (wrongF 8 (sortP l t).2)).2 with
            | true =>
              have HC := Lib.hid (takes_calls w7 p l (identR l (wrongF 8 (sortP l t).2)).2 [44] HI7.out.rd hlen)
              rw [hc] at HC
              have hl := HL.out
              rw [hc] at hl
              simp only [if_true] at hl
              have HT : Hid ((takesF l [44] (identR l (wrongF 8 (sortP l t).2)).2).2 = stepF (identR l (wrongF 8 (sortP l t).2)).2) := Lib.hid (by unfold takesF; rw [if_pos hc])
              have HA := Lib.hid (Adv.step HF.out HI7.out.rd.inb (isF_ne hc))
              have HID := Lib.hid ((identR_adv HF.out HI4.out.rd.inb).2 (isF_er hc))
              have H7 : Hid (out.length ≤ 7) := Lib.hid (by
                have he0 := identR_er (isF_er hc)
                exact absurd he0.1 (wrongF_pos (by decide) _))
              have HLL := Lib.hid hl
              clear hc hl
              refine HC.out.mono ?_
              rintro e w8 ⟨rfl, hR8, hu8⟩
              rw [HT.out] at hR8
              have HI8 := Lib.hid (HI7.out.go hu8 hR8 HA.out)
              clear hR8 hu8
              go_wp2_with fail
              refine ⟨Lib.hid ⟨k, out ++ [((identR l (wrongF 8 (sortP l t).2)).1, (sortP l t).1)], stepF (identR l (wrongF 8 (sortP l t).2)).2, _, HLL.out, rfl, HI8.out, by have := H7.out; simp; omega⟩, ?_⟩
              have q1 := HI8.out.rd.nx
              have q2 := HNX.out
              have q3 := HID.out
              have q4 := HI8.out.rd.inb
              have q5 : (stepF (identR l (wrongF 8 (sortP l t).2)).2).nx = (identR l (wrongF 8 (sortP l t).2)).2.nx + 1 := rfl
              have q6 := HSA.out.le
              have q7 := wrongF_nx 8 (sortP l t).2
              rw [q1, q2]
              omega
            | false =>
              have HC := Lib.hid (takes_calls w7 p l (identR l (wrongF 8 (sortP l t).2)).2 [44] HI7.out.rd hlen)
              rw [hc] at HC
              have hl := HL.out
              rw [hc] at hl
              simp only [Bool.false_eq_true, if_false, Option.some.injEq, Prod.mk.injEq] at hl
              have HT : Hid ((takesF l [44] (identR l (wrongF 8 (sortP l t).2)).2).2 = (identR l (wrongF 8 (sortP l t).2)).2) := Lib.hid (by unfold takesF; rw [hc]; rfl)
              obtain ⟨rfl, rfl⟩ := hl
              clear hc
              refine HC.out.mono ?_
              rintro e w8 ⟨rfl, hR8, hu8⟩
              rw [HT.out] at hR8
              have HI8 := Lib.hid (HI7.out.go hu8 hR8 (Adv.refl HI7.out.rd.inb))
              clear hR8 hu8
              go_wp2_with fail
              refine (need_calls w8 p l _ [58] HI8.out.rd hlen).mono ?_
              rintro e w9 ⟨rfl, hR9, hu9⟩
              have HP := Lib.hid (HI8.out.go hu9 hR9 (needF_adv HF.out HI8.out.rd.inb)).post
              clear hR9 hu9
              go_wp2_with fail
              go_ret
              exact HP.out
          · have k2 : ((out.length : Int) == 8) = false := by rw [beq_eq_false_iff_ne]; omega
            rw [if_neg h2] at hl
            cases ha : (out.any fun o => decide (o.1 = tx)) with
            | true =>
              simp only [ha, if_true] at hl
              have HL := Lib.hid hl
              clear hl h0 h1
              go_wp2_with fail
              refine HS.out.mono ?_
              rintro e w2 ⟨rfl, hR2, hu2⟩
              have hI2 := HI.out.go hu2 hR2 (sortP_adv HF.out HI.out.rd.inb)
              have hua := (Upto.refl [] w2).alloc (.cells #[.string ⟨#[]⟩, .int .i64 (sortP l t).1] 92)
              have HI2 := Lib.hid (hI2.go (hua.mono (by simp)) (hR2.ext hua) (Adv.refl hI2.rd.inb))
              have HV2 : Hid ((w2.alloc (.cells #[.string ⟨#[]⟩, .int .i64 (sortP l t).1] 92)).heap[w2.heap.size]? = some (.cells #[.string ⟨#[]⟩, .int .i64 (sortP l t).1] 92 (0, 0))) := Lib.hid (new_at _ _)
              have HUW2 : Hid (w.heap.size ≤ w2.heap.size) := Lib.hid hI2.up.size
              have HPV : Hid (p < w2.heap.size) := Lib.hid (by have := hI2.up.size; have := hI2.ne; omega)
              have HOWN : Hid (∀ g, (Value.slice va out.length vc).ownBlock = some g → g ≠ w2.heap.size) := Lib.hid (fun g hg => by
                obtain ⟨cur, hh⟩ := ownsRow_block hI2.row hg
                have := lt_of_heap hh
                omega)
              have HSA := Lib.hid (sortP_adv HF.out HI.out.rd.inb)
              have HN := Lib.hid (next_calls (w2.alloc (.cells #[.string ⟨#[]⟩, .int .i64 (sortP l t).1] 92)) p l (sortP l t).2 HI2.out.rd)
              clear hR2 hu2 hI2 hua HS b2
              go_wp2_with fail
              refine HN.out.mono ?_
              rintro e w3 ⟨rfl, hu3⟩
              rw [HTK.out]
              unfold tkA
              have hub := (Upto.refl [] w3).alloc (.cells #[.int .i64 tk, .string ⟨tx.toArray⟩, .int .i64 tv, .int .i64 tl, .int .i64 tc] 36)
              have HI3 := Lib.hid ((HI2.out.go (hu3.mono (by simp)) (HI2.out.rd.ext hu3) (Adv.refl HI2.out.rd.inb)).go (hub.mono (by simp)) ((HI2.out.rd.ext hu3).ext hub) (Adv.refl HI2.out.rd.inb))
              have HT3 : Hid ((w3.alloc (.cells #[.int .i64 tk, .string ⟨tx.toArray⟩, .int .i64 tv, .int .i64 tl, .int .i64 tc] 36)).heap[w3.heap.size]? = some (.cells #[.int .i64 tk, .string ⟨tx.toArray⟩, .int .i64 tv, .int .i64 tl, .int .i64 tc] 36 (0, 0))) := Lib.hid (new_at _ _)
              have HV3 := Lib.hid (hub.at (hu3.at HV2.out (by simp)) (by simp))
              clear hu3 hub HN HV2
              have HCT := Lib.hid (contains_calls out tx tk tv tl tc w3.heap.size _ _ (by have := H8.out; omega) HI3.out.row HT3.out)
              rw [ha] at HCT
              clear ha
              go_wp2_with fail
              refine HCT.out.mono ?_
              rintro e w3' ⟨rfl, hu3'⟩
              have HI3' := Lib.hid (HI3.out.go (hu3'.mono (by simp)) (HI3.out.rd.ext hu3') (Adv.refl HI3.out.rd.inb))
              have HV3' := Lib.hid (hu3'.at HV3.out (by simp))
              clear hu3'
              go_wp2_with fail
              refine (wrong_calls _ p 7 l (sortP l t).2 HI3'.out.rd).mono ?_
              rintro e w4 ⟨rfl, hR4, hu4⟩
              have HI4 := Lib.hid (HI3'.out.go hu4 hR4 (Adv.wrong HI3'.out.rd.inb 7))
              have HV4 := Lib.hid (hu4.at HV3'.out (by have := HPV.out; simp; omega))
              clear hR4 hu4
              go_wp2_with fail
              refine (name_calls _ p l (wrongF 7 (sortP l t).2) HI4.out.rd hlen).mono ?_
              rintro e w5 ⟨rfl, hR5, hu5⟩
              have hI5 := HI4.out.go hu5 hR5 (identR_adv HF.out HI4.out.rd.inb).1
              have hv5 := hu5.at HV4.out (by have := HPV.out; simp; omega)
              have ca0 := cell_of hv5 0
              have ca1 := cell_of hv5 1
              have fa0 := free_of hv5 0
              have fa1 := free_of hv5 1
              simp only [List.getElem?_toArray, List.getElem?_cons_zero, List.getElem?_cons_succ] at ca0 ca1
              have hs6 := (Upto.refl [w2.heap.size] w5).setCell (p := ⟨w2.heap.size, 0, none⟩) (Or.inl (by simp)) (.string ⟨(identR l (wrongF 7 (sortP l t).2)).1.toArray⟩)
              have hv6 := set_same hv5 0 (.string ⟨(identR l (wrongF 7 (sortP l t).2)).1.toArray⟩)
              simp only [List.setIfInBounds_toArray, List.set_cons_zero, List.set_cons_succ] at hv6
              have cb0 := cell_of hv6 0
              have cb1 := cell_of hv6 1
              have fb0 := free_of hv6 0
              have fb1 := free_of hv6 1
              simp only [List.getElem?_toArray, List.getElem?_cons_zero, List.getElem?_cons_succ] at cb0 cb1
              have HI6 := Lib.hid (hI5.set hs6 (by have h1 := HPV.out; have h2 := hI5.ne; have h3 := HUW2.out; omega) HOWN.out)
              have hnx : ((w5.setCell ⟨w2.heap.size, 0, none⟩ (.string ⟨(identR l (wrongF 7 (sortP l t).2)).1.toArray⟩)).alloc (.cells #[.string ⟨(identR l (wrongF 7 (sortP l t).2)).1.toArray⟩, .int .i64 (sortP l t).1] 92)).heap[w5.heap.size]? = some (.cells #[.string ⟨(identR l (wrongF 7 (sortP l t).2)).1.toArray⟩, .int .i64 (sortP l t).1] 92 (0, 0)) := by
                have := new_at (w5.setCell ⟨w2.heap.size, 0, none⟩ (.string ⟨(identR l (wrongF 7 (sortP l t).2)).1.toArray⟩)) (.cells #[.string ⟨(identR l (wrongF 7 (sortP l t).2)).1.toArray⟩, .int .i64 (sortP l t).1] 92)
                simpa [World.setCell] using this
              have HNX6 := Lib.hid hnx
              have h8b := H8.out
              clear hR5 hu5 hI5 hv5 hs6 hv6 hnx
              go_wp2_with (at_builtin
                           refine wpList_app _ rfl (.tmp 37) (.tmp 39) 65 rfl 92 i0 (.agg #[.string ⟨#[]⟩, .int .i64 0]) 2 24 Tryd.underlying65 hi0 hz0 hz1 hz2 rfl (by decide) (.slice va out.length vc) out.length (out.flatMap varC) rfl (HI6.out.row.alloc _) ⟨w5.heap.size, 0, none⟩ 1 1 [.string ⟨(identR l (wrongF 7 (sortP l t).2)).1.toArray⟩, .int .i64 (sortP l t).1] rfl rfl (two_at HNX6.out) (by simp [Value.oneCell']) (by unfold maxLen; omega) (by omega) ?_
                           intro b7 c7 w7 ho7 hu7 hw7)
              have HI7 := Lib.hid (FrI.app (x := ((identR l (wrongF 7 (sortP l t).2)).1, (sortP l t).1)) HI6.out ho7 hu7 hw7)
              clear ho7 hu7 hw7
              cases hc : isF l [44] (identR l (wrongF 7 (sortP l t).2)).2 with
              | true =>
                have HC := Lib.hid (takes_calls w7 p l (identR l (wrongF 7 (sortP l t).2)).2 [44] HI7.out.rd hlen)
                rw [hc] at HC
                have hl := HL.out
                rw [hc] at hl
                simp only [if_true] at hl
                have HT : Hid ((takesF l [44] (identR l (wrongF 7 (sortP l t).2)).2).2 = stepF (identR l (wrongF 7 (sortP l t).2)).2) := Lib.hid (by unfold takesF; rw [if_pos hc])
                have HA := Lib.hid (Adv.step HF.out HI7.out.rd.inb (isF_ne hc))
                have HID := Lib.hid ((identR_adv HF.out HI4.out.rd.inb).2 (isF_er hc))
                have H7 : Hid (out.length ≤ 7) := Lib.hid (by
                  have he0 := identR_er (isF_er hc)
                  have := H8.out; omega)
                have HLL := Lib.hid hl
                clear hc hl
                refine HC.out.mono ?_
                rintro e w8 ⟨rfl, hR8, hu8⟩
                rw [HT.out] at hR8
                have HI8 := Lib.hid (HI7.out.go hu8 hR8 HA.out)
                clear hR8 hu8
                go_wp2_with fail
                refine ⟨Lib.hid ⟨k, out ++ [((identR l (wrongF 7 (sortP l t).2)).1, (sortP l t).1)], stepF (identR l (wrongF 7 (sortP l t).2)).2, _, HLL.out, rfl, HI8.out, by have := H7.out; simp; omega⟩, ?_⟩
                have q1 := HI8.out.rd.nx
                have q2 := HNX.out
                have q3 := HID.out
                have q4 := HI8.out.rd.inb
                have q5 : (stepF (identR l (wrongF 7 (sortP l t).2)).2).nx = (identR l (wrongF 7 (sortP l t).2)).2.nx + 1 := rfl
                have q6 := HSA.out.le
                have q7 := wrongF_nx 7 (sortP l t).2
                rw [q1, q2]
                omega
              | false =>
                have HC := Lib.hid (takes_calls w7 p l (identR l (wrongF 7 (sortP l t).2)).2 [44] HI7.out.rd hlen)
                rw [hc] at HC
                have hl := HL.out
                rw [hc] at hl
                simp only [Bool.false_eq_true, if_false, Option.some.injEq, Prod.mk.injEq] at hl
                have HT : Hid ((takesF l [44] (identR l (wrongF 7 (sortP l t).2)).2).2 = (identR l (wrongF 7 (sortP l t).2)).2) := Lib.hid (by unfold takesF; rw [hc]; rfl)
                obtain ⟨rfl, rfl⟩ := hl
                clear hc
                refine HC.out.mono ?_
                rintro e w8 ⟨rfl, hR8, hu8⟩
                rw [HT.out] at hR8
                have HI8 := Lib.hid (HI7.out.go hu8 hR8 (Adv.refl HI7.out.rd.inb))
                clear hR8 hu8
                go_wp2_with fail
                refine (need_calls w8 p l _ [58] HI8.out.rd hlen).mono ?_
                rintro e w9 ⟨rfl, hR9, hu9⟩
                have HP := Lib.hid (HI8.out.go hu9 hR9 (needF_adv HF.out HI8.out.rd.inb)).post
                clear hR9 hu9
                go_wp2_with fail
                go_ret
                exact HP.out
            | false =>
              simp only [ha, Bool.false_eq_true, if_false] at hl
              have HL := Lib.hid hl
              clear hl h0 h1
              go_wp2_with fail
              refine HS.out.mono ?_
              rintro e w2 ⟨rfl, hR2, hu2⟩
              have hI2 := HI.out.go hu2 hR2 (sortP_adv HF.out HI.out.rd.inb)
              have hua := (Upto.refl [] w2).alloc (.cells #[.string ⟨#[]⟩, .int .i64 (sortP l t).1] 92)
              have HI2 := Lib.hid (hI2.go (hua.mono (by simp)) (hR2.ext hua) (Adv.refl hI2.rd.inb))
              have HV2 : Hid ((w2.alloc (.cells #[.string ⟨#[]⟩, .int .i64 (sortP l t).1] 92)).heap[w2.heap.size]? = some (.cells #[.string ⟨#[]⟩, .int .i64 (sortP l t).1] 92 (0, 0))) := Lib.hid (new_at _ _)
              have HUW2 : Hid (w.heap.size ≤ w2.heap.size) := Lib.hid hI2.up.size
              have HPV : Hid (p < w2.heap.size) := Lib.hid (by have := hI2.up.size; have := hI2.ne; omega)
              have HOWN : Hid (∀ g, (Value.slice va out.length vc).ownBlock = some g → g ≠ w2.heap.size) := Lib.hid (fun g hg => by
                obtain ⟨cur, hh⟩ := ownsRow_block hI2.row hg
                have := lt_of_heap hh
                omega)
              have HSA := Lib.hid (sortP_adv HF.out HI.out.rd.inb)
              have HN := Lib.hid (next_calls (w2.alloc (.cells #[.string ⟨#[]⟩, .int .i64 (sortP l t).1] 92)) p l (sortP l t).2 HI2.out.rd)
              clear hR2 hu2 hI2 hua HS b2
              go_wp2_with fail
              refine HN.out.mono ?_
              rintro e w3 ⟨rfl, hu3⟩
              rw [HTK.out]
              unfold tkA
              have hub := (Upto.refl [] w3).alloc (.cells #[.int .i64 tk, .string ⟨tx.toArray⟩, .int .i64 tv, .int .i64 tl, .int .i64 tc] 36)
              have HI3 := Lib.hid ((HI2.out.go (hu3.mono (by simp)) (HI2.out.rd.ext hu3) (Adv.refl HI2.out.rd.inb)).go (hub.mono (by simp)) ((HI2.out.rd.ext hu3).ext hub) (Adv.refl HI2.out.rd.inb))
              have HT3 : Hid ((w3.alloc (.cells #[.int .i64 tk, .string ⟨tx.toArray⟩, .int .i64 tv, .int .i64 tl, .int .i64 tc] 36)).heap[w3.heap.size]? = some (.cells #[.int .i64 tk, .string ⟨tx.toArray⟩, .int .i64 tv, .int .i64 tl, .int .i64 tc] 36 (0, 0))) := Lib.hid (new_at _ _)
              have HV3 := Lib.hid (hub.at (hu3.at HV2.out (by simp)) (by simp))
              clear hu3 hub HN HV2
              have HCT := Lib.hid (contains_calls out tx tk tv tl tc w3.heap.size _ _ (by have := H8.out; omega) HI3.out.row HT3.out)
              rw [ha] at HCT
              clear ha
              go_wp2_with fail
              refine HCT.out.mono ?_
              rintro e w4 ⟨rfl, hu4⟩
              have HI4 := Lib.hid (HI3.out.go (hu4.mono (by simp)) (HI3.out.rd.ext hu4) (Adv.refl HI3.out.rd.inb))
              have HV4 := Lib.hid (hu4.at HV3.out (by simp))
              clear hu4
              go_wp2_with fail
              refine (name_calls _ p l (sortP l t).2 HI4.out.rd hlen).mono ?_
              rintro e w5 ⟨rfl, hR5, hu5⟩
              have hI5 := HI4.out.go hu5 hR5 (identR_adv HF.out HI4.out.rd.inb).1
              have hv5 := hu5.at HV4.out (by have := HPV.out; simp; omega)
              have ca0 := cell_of hv5 0
              have ca1 := cell_of hv5 1
              have fa0 := free_of hv5 0
              have fa1 := free_of hv5 1
              simp only [List.getElem?_toArray, List.getElem?_cons_zero, List.getElem?_cons_succ] at ca0 ca1
              have hs6 := (Upto.refl [w2.heap.size] w5).setCell (p := ⟨w2.heap.size, 0, none⟩) (Or.inl (by simp)) (.string ⟨(identR l (sortP l t).2).1.toArray⟩)
              have hv6 := set_same hv5 0 (.string ⟨(identR l (sortP l t).2).1.toArray⟩)
              simp only [List.setIfInBounds_toArray, List.set_cons_zero, List.set_cons_succ] at hv6
              have cb0 := cell_of hv6 0
              have cb1 := cell_of hv6 1
              have fb0 := free_of hv6 0
              have fb1 := free_of hv6 1
              simp only [List.getElem?_toArray, List.getElem?_cons_zero, List.getElem?_cons_succ] at cb0 cb1
              have HI6 := Lib.hid (hI5.set hs6 (by have h1 := HPV.out; have h2 := hI5.ne; have h3 := HUW2.out; omega) HOWN.out)
              have hnx : ((w5.setCell ⟨w2.heap.size, 0, none⟩ (.string ⟨(identR l (sortP l t).2).1.toArray⟩)).alloc (.cells #[.string ⟨(identR l (sortP l t).2).1.toArray⟩, .int .i64 (sortP l t).1] 92)).heap[w5.heap.size]? = some (.cells #[.string ⟨(identR l (sortP l t).2).1.toArray⟩, .int .i64 (sortP l t).1] 92 (0, 0)) := by
                have := new_at (w5.setCell ⟨w2.heap.size, 0, none⟩ (.string ⟨(identR l (sortP l t).2).1.toArray⟩)) (.cells #[.string ⟨(identR l (sortP l t).2).1.toArray⟩, .int .i64 (sortP l t).1] 92)
                simpa [World.setCell] using this
              have HNX6 := Lib.hid hnx
              have h8b := H8.out
              clear hR5 hu5 hI5 hv5 hs6 hv6 hnx
              go_wp2_with (at_builtin
                           refine wpList_app _ rfl (.tmp 37) (.tmp 39) 65 rfl 92 i0 (.agg #[.string ⟨#[]⟩, .int .i64 0]) 2 24 Tryd.underlying65 hi0 hz0 hz1 hz2 rfl (by decide) (.slice va out.length vc) out.length (out.flatMap varC) rfl (HI6.out.row.alloc _) ⟨w5.heap.size, 0, none⟩ 1 1 [.string ⟨(identR l (sortP l t).2).1.toArray⟩, .int .i64 (sortP l t).1] rfl rfl (two_at HNX6.out) (by simp [Value.oneCell']) (by unfold maxLen; omega) (by omega) ?_
                           intro b7 c7 w7 ho7 hu7 hw7)
              have HI7 := Lib.hid (FrI.app (x := ((identR l (sortP l t).2).1, (sortP l t).1)) HI6.out ho7 hu7 hw7)
              clear ho7 hu7 hw7
              cases hc : isF l [44] (identR l (sortP l t).2).2 with
              | true =>
                have HC := Lib.hid (takes_calls w7 p l (identR l (sortP l t).2).2 [44] HI7.out.rd hlen)
                rw [hc] at HC
                have hl := HL.out
                rw [hc] at hl
                simp only [if_true] at hl
                have HT : Hid ((takesF l [44] (identR l (sortP l t).2).2).2 = stepF (identR l (sortP l t).2).2) := Lib.hid (by unfold takesF; rw [if_pos hc])
                have HA := Lib.hid (Adv.step HF.out HI7.out.rd.inb (isF_ne hc))
                have HID := Lib.hid ((identR_adv HF.out HI4.out.rd.inb).2 (isF_er hc))
                have H7 : Hid (out.length ≤ 7) := Lib.hid (by
                  have he0 := identR_er (isF_er hc)
                  have := H8.out; omega)
                have HLL := Lib.hid hl
                clear hc hl
                refine HC.out.mono ?_
                rintro e w8 ⟨rfl, hR8, hu8⟩
                rw [HT.out] at hR8
                have HI8 := Lib.hid (HI7.out.go hu8 hR8 HA.out)
                clear hR8 hu8
                go_wp2_with fail
                refine ⟨Lib.hid ⟨k, out ++ [((identR l (sortP l t).2).1, (sortP l t).1)], stepF (identR l (sortP l t).2).2, _, HLL.out, rfl, HI8.out, by have := H7.out; simp; omega⟩, ?_⟩
                have q1 := HI8.out.rd.nx
                have q2 := HNX.out
                have q3 := HID.out
                have q4 := HI8.out.rd.inb
                have q5 : (stepF (identR l (sortP l t).2).2).nx = (identR l (sortP l t).2).2.nx + 1 := rfl
                have q6 := HSA.out.le
                have q7 := (rfl : (sortP l t).2.nx = (sortP l t).2.nx)
                rw [q1, q2]
                omega
              | false =>
                have HC := Lib.hid (takes_calls w7 p l (identR l (sortP l t).2).2 [44] HI7.out.rd hlen)
                rw [hc] at HC
                have hl := HL.out
                rw [hc] at hl
                simp only [Bool.false_eq_true, if_false, Option.some.injEq, Prod.mk.injEq] at hl
                have HT : Hid ((takesF l [44] (identR l (sortP l t).2).2).2 = (identR l (sortP l t).2).2) := Lib.hid (by unfold takesF; rw [hc]; rfl)
                obtain ⟨rfl, rfl⟩ := hl
                clear hc
                refine HC.out.mono ?_
                rintro e w8 ⟨rfl, hR8, hu8⟩
                rw [HT.out] at hR8
                have HI8 := Lib.hid (HI7.out.go hu8 hR8 (Adv.refl HI7.out.rd.inb))
                clear hR8 hu8
                go_wp2_with fail
                refine (need_calls w8 p l _ [58] HI8.out.rd hlen).mono ?_
                rintro e w9 ⟨rfl, hR9, hu9⟩
                have HP := Lib.hid (HI8.out.go hu9 hR9 (needF_adv HF.out HI8.out.rd.inb)).post
                clear hR9 hu9
                go_wp2_with fail
                go_ret
                exact HP.out
        · have k1 : ((tk : Int) == 1) = false := by rw [beq_eq_false_iff_ne]; omega
          rw [if_neg h1] at hl
          have HL := Lib.hid hl
          clear hl h0
          go_wp2_with fail
          refine HS.out.mono ?_
          rintro e w2 ⟨rfl, hR2, hu2⟩
          have hI2 := HI.out.go hu2 hR2 (sortP_adv HF.out HI.out.rd.inb)
          have hua := (Upto.refl [] w2).alloc (.cells #[.string ⟨#[]⟩, .int .i64 (sortP l t).1] 92)
          have HI2 := Lib.hid (hI2.go (hua.mono (by simp)) (hR2.ext hua) (Adv.refl hI2.rd.inb))
          have HV2 : Hid ((w2.alloc (.cells #[.string ⟨#[]⟩, .int .i64 (sortP l t).1] 92)).heap[w2.heap.size]? = some (.cells #[.string ⟨#[]⟩, .int .i64 (sortP l t).1] 92 (0, 0))) := Lib.hid (new_at _ _)
          have HUW2 : Hid (w.heap.size ≤ w2.heap.size) := Lib.hid hI2.up.size
          have HPV : Hid (p < w2.heap.size) := Lib.hid (by have := hI2.up.size; have := hI2.ne; omega)
          have HOWN : Hid (∀ g, (Value.slice va out.length vc).ownBlock = some g → g ≠ w2.heap.size) := Lib.hid (fun g hg => by
            obtain ⟨cur, hh⟩ := ownsRow_block hI2.row hg
            have := lt_of_heap hh
            omega)
          have HSA := Lib.hid (sortP_adv HF.out HI.out.rd.inb)
          have HN := Lib.hid (next_calls (w2.alloc (.cells #[.string ⟨#[]⟩, .int .i64 (sortP l t).1] 92)) p l (sortP l t).2 HI2.out.rd)
          clear hR2 hu2 hI2 hua HS b2
          go_wp2_with fail
          refine HN.out.mono ?_
          rintro e w3 ⟨rfl, hu3⟩
          rw [HTK.out]
          unfold tkA
          have hub := (Upto.refl [] w3).alloc (.cells #[.int .i64 tk, .string ⟨tx.toArray⟩, .int .i64 tv, .int .i64 tl, .int .i64 tc] 36)
          have HI3 := Lib.hid ((HI2.out.go (hu3.mono (by simp)) (HI2.out.rd.ext hu3) (Adv.refl HI2.out.rd.inb)).go (hub.mono (by simp)) ((HI2.out.rd.ext hu3).ext hub) (Adv.refl HI2.out.rd.inb))
          have HT3 : Hid ((w3.alloc (.cells #[.int .i64 tk, .string ⟨tx.toArray⟩, .int .i64 tv, .int .i64 tl, .int .i64 tc] 36)).heap[w3.heap.size]? = some (.cells #[.int .i64 tk, .string ⟨tx.toArray⟩, .int .i64 tv, .int .i64 tl, .int .i64 tc] 36 (0, 0))) := Lib.hid (new_at _ _)
          have HV3 := Lib.hid (hub.at (hu3.at HV2.out (by simp)) (by simp))
          clear hu3 hub HN HV2
          obtain ⟨w4, hw4⟩ : ∃ w4, w4 = w3.alloc (.cells #[.int .i64 tk, .string ⟨tx.toArray⟩, .int .i64 tv, .int .i64 tl, .int .i64 tc] 36) := ⟨_, rfl⟩
          have HI4 := HI3
          have HV4 := HV3
          rw [← hw4] at HI4 HV4
          have HW4 := Lib.hid hw4
          clear hw4
          go_wp2_with fail
          rw [← HW4.out]
          refine (name_calls _ p l (sortP l t).2 HI4.out.rd hlen).mono ?_
          rintro e w5 ⟨rfl, hR5, hu5⟩
          have hI5 := HI4.out.go hu5 hR5 (identR_adv HF.out HI4.out.rd.inb).1
          have hv5 := hu5.at HV4.out (by have := HPV.out; simp; omega)
          have ca0 := cell_of hv5 0
          have ca1 := cell_of hv5 1
          have fa0 := free_of hv5 0
          have fa1 := free_of hv5 1
          simp only [List.getElem?_toArray, List.getElem?_cons_zero, List.getElem?_cons_succ] at ca0 ca1
          have hs6 := (Upto.refl [w2.heap.size] w5).setCell (p := ⟨w2.heap.size, 0, none⟩) (Or.inl (by simp)) (.string ⟨(identR l (sortP l t).2).1.toArray⟩)
          have hv6 := set_same hv5 0 (.string ⟨(identR l (sortP l t).2).1.toArray⟩)
          simp only [List.setIfInBounds_toArray, List.set_cons_zero, List.set_cons_succ] at hv6
          have cb0 := cell_of hv6 0
          have cb1 := cell_of hv6 1
          have fb0 := free_of hv6 0
          have fb1 := free_of hv6 1
          simp only [List.getElem?_toArray, List.getElem?_cons_zero, List.getElem?_cons_succ] at cb0 cb1
          have HI6 := Lib.hid (hI5.set hs6 (by have h1 := HPV.out; have h2 := hI5.ne; have h3 := HUW2.out; omega) HOWN.out)
          have hnx : ((w5.setCell ⟨w2.heap.size, 0, none⟩ (.string ⟨(identR l (sortP l t).2).1.toArray⟩)).alloc (.cells #[.string ⟨(identR l (sortP l t).2).1.toArray⟩, .int .i64 (sortP l t).1] 92)).heap[w5.heap.size]? = some (.cells #[.string ⟨(identR l (sortP l t).2).1.toArray⟩, .int .i64 (sortP l t).1] 92 (0, 0)) := by
            have := new_at (w5.setCell ⟨w2.heap.size, 0, none⟩ (.string ⟨(identR l (sortP l t).2).1.toArray⟩)) (.cells #[.string ⟨(identR l (sortP l t).2).1.toArray⟩, .int .i64 (sortP l t).1] 92)
            simpa [World.setCell] using this
          have HNX6 := Lib.hid hnx
          have h8b := H8.out
          clear hR5 hu5 hI5 hv5 hs6 hv6 hnx
          go_wp2_with (at_builtin
                       refine wpList_app _ rfl (.tmp 37) (.tmp 39) 65 rfl 92 i0 (.agg #[.string ⟨#[]⟩, .int .i64 0]) 2 24 Tryd.underlying65 hi0 hz0 hz1 hz2 rfl (by decide) (.slice va out.length vc) out.length (out.flatMap varC) rfl (HI6.out.row.alloc _) ⟨w5.heap.size, 0, none⟩ 1 1 [.string ⟨(identR l (sortP l t).2).1.toArray⟩, .int .i64 (sortP l t).1] rfl rfl (two_at HNX6.out) (by simp [Value.oneCell']) (by unfold maxLen; omega) (by omega) ?_
                       intro b7 c7 w7 ho7 hu7 hw7)
          have HI7 := Lib.hid (FrI.app (x := ((identR l (sortP l t).2).1, (sortP l t).1)) HI6.out ho7 hu7 hw7)
          clear ho7 hu7 hw7
          cases hc : isF l [44] (identR l (sortP l t).2).2 with
          | true =>
            have HC := Lib.hid (takes_calls w7 p l (identR l (sortP l t).2).2 [44] HI7.out.rd hlen)
            rw [hc] at HC
            have hl := HL.out
            rw [hc] at hl
            simp only [if_true] at hl
            have HT : Hid ((takesF l [44] (identR l (sortP l t).2).2).2 = stepF (identR l (sortP l t).2).2) := Lib.hid (by unfold takesF; rw [if_pos hc])
            have HA := Lib.hid (Adv.step HF.out HI7.out.rd.inb (isF_ne hc))
            have HID := Lib.hid ((identR_adv HF.out HI4.out.rd.inb).2 (isF_er hc))
            have H7 : Hid (out.length ≤ 7) := Lib.hid (by
              have he0 := identR_er (isF_er hc)
              have := he0.2; rw [HTK.out] at this; exact absurd this h1)
            have HLL := Lib.hid hl
            clear hc hl
            refine HC.out.mono ?_
            rintro e w8 ⟨rfl, hR8, hu8⟩
            rw [HT.out] at hR8
            have HI8 := Lib.hid (HI7.out.go hu8 hR8 HA.out)
            clear hR8 hu8
            go_wp2_with fail
            refine ⟨Lib.hid ⟨k, out ++ [((identR l (sortP l t).2).1, (sortP l t).1)], stepF (identR l (sortP l t).2).2, _, HLL.out, rfl, HI8.out, by have := H7.out; simp; omega⟩, ?_⟩
            have q1 := HI8.out.rd.nx
            have q2 := HNX.out
            have q3 := HID.out
            have q4 := HI8.out.rd.inb
            have q5 : (stepF (identR l (sortP l t).2).2).nx = (identR l (sortP l t).2).2.nx + 1 := rfl
            have q6 := HSA.out.le
            have q7 := (rfl : (sortP l t).2.nx = (sortP l t).2.nx)
            rw [q1, q2]
            omega
          | false =>
            have HC := Lib.hid (takes_calls w7 p l (identR l (sortP l t).2).2 [44] HI7.out.rd hlen)
            rw [hc] at HC
            have hl := HL.out
            rw [hc] at hl
            simp only [Bool.false_eq_true, if_false, Option.some.injEq, Prod.mk.injEq] at hl
            have HT : Hid ((takesF l [44] (identR l (sortP l t).2).2).2 = (identR l (sortP l t).2).2) := Lib.hid (by unfold takesF; rw [hc]; rfl)
            obtain ⟨rfl, rfl⟩ := hl
            clear hc
            refine HC.out.mono ?_
            rintro e w8 ⟨rfl, hR8, hu8⟩
            rw [HT.out] at hR8
            have HI8 := Lib.hid (HI7.out.go hu8 hR8 (Adv.refl HI7.out.rd.inb))
            clear hR8 hu8
            go_wp2_with fail
            refine (need_calls w8 p l _ [58] HI8.out.rd hlen).mono ?_
            rintro e w9 ⟨rfl, hR9, hu9⟩
            have HP := Lib.hid (HI8.out.go hu9 hR9 (needF_adv HF.out HI8.out.rd.inb)).post
            clear hR9 hu9
            go_wp2_with fail
            go_ret
            exact HP.out
      · have k0 : ((t.er : Int) == 0) = false := by rw [beq_eq_false_iff_ne]; omega
        rw [if_neg h0] at hl
        simp only [Option.some.injEq, Prod.mk.injEq] at hl
        obtain ⟨rfl, rfl⟩ := hl
        have HP := Lib.hid hI.post
        clear hI h0
        go_wp2_with fail
        go_ret
        exact HP.out
end Go.Proofs.YtkhbpebpljdifaaDoor

/- Equality of formulas and questions, where they are equal. -/
namespace Go.Proofs.YtkhbpebpljdifaaDoor
open Go.RowKit Go.PL Go.Maps

theorem SlP.get {w : World} {P : Nat → Prop} {v : Value} {n : Nat} {xs : List Value} (h : SlP w P v n xs) : ∃ a c, v = .slice a n c ∧ ∀ i u, xs[i]? = some u → ∃ g o, a = some ⟨g, o, none⟩ ∧ w.cell? ⟨g, o + i, none⟩ = some u := by
  rcases h with ⟨rfl, rfl, a, c, rfl⟩ | ⟨g, o, c, rfl, -, hc⟩
  · exact ⟨a, c, rfl, fun i u h => by simp at h⟩
  · exact ⟨_, c, rfl, fun i u h => ⟨g, o, rfl, hc i u h⟩⟩

set_option maxRecDepth 100000 in
set_option maxHeartbeats 3200000 in
/-- equal lists of names -/
theorem names_same (xs : List (List UInt8)) (v v' : Value) (P P' : Nat → Prop) (w : World) (hl : xs.length ≤ 10000000) (h : SlP w P v xs.length (xs.map sV)) (h' : SlP w P' v' xs.length (xs.map sV)) : Calls Tryd.prog 83 #[v, v'] w fun e w' => e = .returned (.bool true) ∧ Upto [] w w' := by
  obtain ⟨a, c, rfl, hg⟩ := h.get
  obtain ⟨a', c', rfl, hg'⟩ := h'.get
  have HG : Hid (∀ i x, xs[i]? = some x → ∃ g o, a = some ⟨g, o, none⟩ ∧ w.cell? ⟨g, o + i, none⟩ = some (.string ⟨x.toArray⟩)) := Lib.hid (fun i x hi => hg i _ (by rw [List.getElem?_map, hi]; rfl))
  have HG' : Hid (∀ i x, xs[i]? = some x → ∃ g o, a' = some ⟨g, o, none⟩ ∧ w.cell? ⟨g, o + i, none⟩ = some (.string ⟨x.toArray⟩)) := Lib.hid (fun i x hi => hg' i _ (by rw [List.getElem?_map, hi]; rfl))
  clear h h' hg hg'
  generalize hll : xs.length = ll at *
  have HLL := Lib.hid hll
  have hL0 : (0 : Int) ≤ ll := by omega
  have hL1 : (ll : Int) ≤ 10000000 := by omega
  clear hll
  go_enter Tryd.func83, Tryd.ntmps83
  go_wp2_with fail
  go_loopw [13] (fun i wr => ∃ j : Nat, j ≤ ll ∧ i = .int .i64 j ∧ Hid (Upto [] w wr)) (fun i _ => ll - (intOf i).toNat)
  case atStart => exact ⟨0, by omega, rfl, Lib.hid (Upto.refl _ _)⟩
  case round =>
    obtain ⟨j, hj, rfl, HU⟩ := hrel
    rcases Nat.lt_or_ge j ll with hlt | hge
    · obtain ⟨x, hx⟩ : ∃ x, xs[j]? = some x := ⟨_, List.getElem?_eq_getElem (by have := HLL.out; omega)⟩
      obtain ⟨g, o, rfl, c0⟩ := HG.out j x hx
      obtain ⟨g', o', rfl, c1⟩ := HG'.out j x hx
      replace c0 := (HU.out.cell (p := ⟨g, o + j, none⟩) (World.block_lt_of_cell? w _ c0) (by simp)).trans c0
      replace c1 := (HU.out.cell (p := ⟨g', o' + j, none⟩) (World.block_lt_of_cell? w _ c1) (by simp)).trans c1
      have hd := (Upto.refl [] wr).drew
      have d0 := (hd.cell (p := ⟨g, o + j, none⟩) (World.block_lt_of_cell? wr _ c0) (by simp)).trans c0
      have d1 := (hd.cell (p := ⟨g', o' + j, none⟩) (World.block_lt_of_cell? wr _ c1) (by simp)).trans c1
      have HD := Lib.hid (HU.out.trans_ext hd)
      have hltI : (j : Int) < ll := by omega
      have hj0 : (0 : Int) ≤ j := by omega
      clear hx hd
      go_wp2_with fail
      go_region
      all_goals (
        go_wp2_with fail
        go_roundw
        case rel => exact ⟨j + 1, by omega, by go_num, HD⟩
        case measure => simp [intOf]; omega)
    · obtain rfl : j = ll := by omega
      have hgeI : (j : Int) ≥ j := by omega
      go_wp2
      go_ret
      exact ⟨rfl, HU.out⟩

set_option maxRecDepth 100000 in
set_option maxHeartbeats 3200000 in
/-- equal lists of variables -/
theorem vars_same (xs : List (List UInt8 × Int)) (v v' : Value) (P P' : Nat → Prop) (w : World) (hl : xs.length ≤ 10000000) (h : VarsV w P v xs) (h' : VarsV w P' v' xs) : Calls Tryd.prog 55 #[v, v'] w fun e w' => e = .returned (.bool true) ∧ Upto [] w w' := by
  obtain ⟨a, c, rfl, hg⟩ := SlP.get h
  obtain ⟨a', c', rfl, hg'⟩ := SlP.get h'
  have HG : Hid (∀ i x, xs[i]? = some x → ∃ g o, a = some ⟨g, o, none⟩ ∧ w.cell? ⟨g, o + i * 2, none⟩ = some (.string ⟨x.1.toArray⟩) ∧ w.cell? ⟨g, o + i * 2 + 1, none⟩ = some (.int .i64 x.2)) := Lib.hid (fun i x hi => by
    obtain ⟨g, o, rfl, h1⟩ := hg _ _ (vars_at hi).1
    obtain ⟨g2, o2, e, h2⟩ := hg _ _ (vars_at hi).2
    simp at e
    obtain ⟨rfl, rfl⟩ := e
    exact ⟨g, o, rfl, h1, h2⟩)
  have HG' : Hid (∀ i x, xs[i]? = some x → ∃ g o, a' = some ⟨g, o, none⟩ ∧ w.cell? ⟨g, o + i * 2, none⟩ = some (.string ⟨x.1.toArray⟩) ∧ w.cell? ⟨g, o + i * 2 + 1, none⟩ = some (.int .i64 x.2)) := Lib.hid (fun i x hi => by
    obtain ⟨g, o, rfl, h1⟩ := hg' _ _ (vars_at hi).1
    obtain ⟨g2, o2, e, h2⟩ := hg' _ _ (vars_at hi).2
    simp at e
    obtain ⟨rfl, rfl⟩ := e
    exact ⟨g, o, rfl, h1, h2⟩)
  clear h h' hg hg'
  generalize hll : xs.length = ll at *
  have HLL := Lib.hid hll
  have hL0 : (0 : Int) ≤ ll := by omega
  have hL1 : (ll : Int) ≤ 10000000 := by omega
  clear hll
  go_enter Tryd.func55, Tryd.ntmps55
  go_wp2_with fail
  go_loopw [13] (fun i wr => ∃ j : Nat, j ≤ ll ∧ i = .int .i64 j ∧ Hid (Upto [] w wr)) (fun i _ => ll - (intOf i).toNat)
  case atStart => exact ⟨0, by omega, rfl, Lib.hid (Upto.refl _ _)⟩
  case round =>
    obtain ⟨j, hj, rfl, HU⟩ := hrel
    rcases Nat.lt_or_ge j ll with hlt | hge
    · obtain ⟨x, hx⟩ : ∃ x, xs[j]? = some x := ⟨_, List.getElem?_eq_getElem (by have := HLL.out; omega)⟩
      obtain ⟨g, o, rfl, c0, c1⟩ := HG.out j x hx
      obtain ⟨g', o', rfl, c2, c3⟩ := HG'.out j x hx
      replace c0 := (HU.out.cell (p := ⟨g, o + j * 2, none⟩) (World.block_lt_of_cell? w _ c0) (by simp)).trans c0
      replace c1 := (HU.out.cell (p := ⟨g, o + j * 2 + 1, none⟩) (World.block_lt_of_cell? w _ c1) (by simp)).trans c1
      replace c2 := (HU.out.cell (p := ⟨g', o' + j * 2, none⟩) (World.block_lt_of_cell? w _ c2) (by simp)).trans c2
      replace c3 := (HU.out.cell (p := ⟨g', o' + j * 2 + 1, none⟩) (World.block_lt_of_cell? w _ c3) (by simp)).trans c3
      have hd := (Upto.refl [] wr).drew
      have d0 := (hd.cell (p := ⟨g, o + j * 2, none⟩) (World.block_lt_of_cell? wr _ c0) (by simp)).trans c0
      have d1 := (hd.cell (p := ⟨g, o + j * 2 + 1, none⟩) (World.block_lt_of_cell? wr _ c1) (by simp)).trans c1
      have d2 := (hd.cell (p := ⟨g', o' + j * 2, none⟩) (World.block_lt_of_cell? wr _ c2) (by simp)).trans c2
      have d3 := (hd.cell (p := ⟨g', o' + j * 2 + 1, none⟩) (World.block_lt_of_cell? wr _ c3) (by simp)).trans c3
      have HD := Lib.hid (HU.out.trans_ext hd)
      have hltI : (j : Int) < ll := by omega
      have hj0 : (0 : Int) ≤ j := by omega
      clear hx hd
      go_wp2_with fail
      go_region
      all_goals (
        go_wp2_with fail
        go_roundw
        case rel => exact ⟨j + 1, by omega, by go_num, HD⟩
        case measure => simp [intOf]; omega)
    · obtain rfl : j = ll := by omega
      have hgeI : (j : Int) ≥ j := by omega
      go_wp2
      go_ret
      exact ⟨rfl, HU.out⟩
end Go.Proofs.YtkhbpebpljdifaaDoor

/- The reader of formulas: questions. -/
namespace Go.Proofs.YtkhbpebpljdifaaDoor
open Go.RowKit Go.PL Go.Maps

/-- v is the question q -/
def QnV (w : World) (P : Nat → Prop) (q : Qn) (v : Value) : Prop := ∃ vf a0 a1 a2 a3 a4 a5, v = .agg #[vf, a0, a1, a2, a3, a4, a5] ∧ VarsV w P vf q.free ∧ NdV w P q.body (.agg #[a0, a1, a2, a3, a4, a5])
theorem QnV.keep {w w' : World} {P Q : Nat → Prop} (hk : Keep w w' P Q) {q : Qn} {v : Value} (h : QnV w P q v) : QnV w' Q q v := by
  obtain ⟨vf, a0, a1, a2, a3, a4, a5, e, h1, h2⟩ := h
  exact ⟨vf, a0, a1, a2, a3, a4, a5, e, SlP.keep hk h1, NdV.keep hk _ _ h2⟩
theorem QnV.seven {w : World} {P : Nat → Prop} {q : Qn} {v : Value} (h : QnV w P q v) : ∃ (f1 : Option Addr) (f2 f3 : Nat) (op : Int) (a1 : Option Addr) (n1 c1 : Nat) (so n m : Int) (a2 : Option Addr) (n2 c2 : Nat), v = .agg #[.slice f1 f2 f3, .int .i64 op, .slice a1 n1 c1, .int .i64 so, .int .i64 n, .int .i64 m, .slice a2 n2 c2] := by
  obtain ⟨vf, a0, a1, a2, a3, a4, a5, rfl, h1, h2⟩ := h
  obtain ⟨fa, fc, rfl⟩ := h1.len
  obtain ⟨op, x1, x2, x3, so, n, m, y1, y2, y3, hs⟩ := h2.six
  simp only [Value.agg.injEq, Array.mk.injEq, List.cons.injEq, and_true] at hs
  obtain ⟨rfl, rfl, rfl, rfl, rfl, rfl⟩ := hs
  exact ⟨fa, _, fc, op, x1, x2, x3, so, n, m, y1, y2, y3, rfl⟩
def zeroQ : Value := .agg #[.slice none 0 0, .int .i64 0, .slice none 0 0, .int .i64 0, .int .i64 0, .int .i64 0, .slice none 0 0]
theorem QnV.zero (w : World) (P : Nat → Prop) : QnV w P .zero zeroQ := ⟨_, _, _, _, _, _, _, rfl, SlP.nil, NdV.zero w P⟩
def QPost (w : World) (p : Nat) (l : List Tok) (s : PS) (q : Qn) (s' : PS) (e : Ending) (w' : World) : Prop :=
  ∃ v, e = .returned v ∧ QnV w' (New w) q v ∧ RdAt w' p l s' ∧ Upto [p] w w' ∧ Adv l s s'
theorem q_store {w : World} {B : Nat} {x0 x1 x2 x3 x4 x5 x6 : Value} {T : TypeId} (h : w.heap[B]? = some (.cells #[x0, x1, x2, x3, x4, x5, x6] T (0, 0))) (a b c d e f g : Value) :
    (((((((w.setCell ⟨B, 0, none⟩ a).setCell ⟨B, 1, none⟩ b).setCell ⟨B, 2, none⟩ c).setCell ⟨B, 3, none⟩ d).setCell ⟨B, 4, none⟩ e).setCell ⟨B, 5, none⟩ f).setCell ⟨B, 6, none⟩ g).heap[B]? = some (.cells #[a, b, c, d, e, f, g] T (0, 0)) := by
  have := set_same (set_same (set_same (set_same (set_same (set_same (set_same h 0 a) 1 b) 2 c) 3 d) 4 e) 5 f) 6 g
  simpa using this
theorem q_up {S : List Nat} {v w : World} {B : Nat} (h : Upto S v w) (hB : B ∈ S ∨ v.heap.size ≤ B) (a b c d e f g : Value) : Upto S v (((((((w.setCell ⟨B, 0, none⟩ a).setCell ⟨B, 1, none⟩ b).setCell ⟨B, 2, none⟩ c).setCell ⟨B, 3, none⟩ d).setCell ⟨B, 4, none⟩ e).setCell ⟨B, 5, none⟩ f).setCell ⟨B, 6, none⟩ g) :=
  ((((((h.setCell hB _).setCell hB _).setCell hB _).setCell hB _).setCell hB _).setCell hB _).setCell hB _
theorem q_self (w : World) (B : Nat) (a b c d e f g : Value) : Upto [B] w (((((((w.setCell ⟨B, 0, none⟩ a).setCell ⟨B, 1, none⟩ b).setCell ⟨B, 2, none⟩ c).setCell ⟨B, 3, none⟩ d).setCell ⟨B, 4, none⟩ e).setCell ⟨B, 5, none⟩ f).setCell ⟨B, 6, none⟩ g) := q_up (Upto.refl _ _) (Or.inl (by simp)) ..
theorem qpost_fin {w w2 : World} {p B : Nat} {l : List Tok} {s s' : PS} {q : Qn} {P : Nat → Prop} (hB : w.heap.size ≤ B) (hp : p < B) (hu : Upto [p] w w2) (hR : RdAt w2 p l s') (ha : Adv l s s') {a b c d e f g : Value} (hf : VarsV w2 P a q.free) (hn : NdV w2 P q.body (.agg #[b, c, d, e, f, g])) (hP : ∀ b, P b → IsC w2 b → New w b ∧ b ≠ B) :
    QPost w p l s q s' (.returned (.agg #[a, b, c, d, e, f, g])) (((((((w2.setCell ⟨B, 0, none⟩ a).setCell ⟨B, 1, none⟩ b).setCell ⟨B, 2, none⟩ c).setCell ⟨B, 3, none⟩ d).setCell ⟨B, 4, none⟩ e).setCell ⟨B, 5, none⟩ f).setCell ⟨B, 6, none⟩ g) := by
  have hst := q_self w2 B a b c d e f g
  have hk : Keep w2 (((((((w2.setCell ⟨B, 0, none⟩ a).setCell ⟨B, 1, none⟩ b).setCell ⟨B, 2, none⟩ c).setCell ⟨B, 3, none⟩ d).setCell ⟨B, 4, none⟩ e).setCell ⟨B, 5, none⟩ f).setCell ⟨B, 6, none⟩ g) P (New w) := ⟨hst.size, fun x hx hl => ⟨(hP x hx hl).1, hst.block x hl.lt (by simpa using (hP x hx hl).2)⟩⟩
  exact ⟨_, rfl, ⟨_, _, _, _, _, _, _, rfl, SlP.keep hk hf, NdV.keep hk _ _ hn⟩, hR.above hst (fun k hk => by simp at hk; omega), q_up hu (Or.inr hB) .., ha⟩

set_option maxRecDepth 100000 in
set_option maxHeartbeats 6400000 in
theorem bare1_calls (w : World) (p : Nat) (l : List Tok) (htx : ∀ t ∈ l, t.text.length ≤ 65536) (s s' : PS) (q : Qn) (hx : Cx w p l) (h : RdAt w p l s) (hd : s.dp ≤ 256) (he : (wholeP l s).map (fun r => (⟨[], r.1⟩, r.2)) = some (q, s')) :
    Calls Tryd.prog 51 #[.pointer (some ⟨p, 0, none⟩)] w (QPost w p l s q s') := by
  have HF : Hid (Fin l) := Lib.hid h.fin
  have hin := h.inb
  have HpB : Hid (p < w.heap.size) := Lib.hid h.lt
  have hu0 : Upto [] w (w.alloc (.cells #[.slice none 0 0, .int .i64 0, .slice none 0 0, .int .i64 0, .int .i64 0, .int .i64 0, .slice none 0 0] 67)) := (Upto.refl [] w).alloc _
  have HR0 := Lib.hid (h.ext hu0)
  have HX0 := Lib.hid (hx.ext hu0)
  have HU0 : Hid (Upto [p] w (w.alloc (.cells #[.slice none 0 0, .int .i64 0, .slice none 0 0, .int .i64 0, .int .i64 0, .int .i64 0, .slice none 0 0] 67))) := Lib.hid (hu0.mono (by simp))
  have HNew : Hid ((w.alloc (.cells #[.slice none 0 0, .int .i64 0, .slice none 0 0, .int .i64 0, .int .i64 0, .int .i64 0, .slice none 0 0] 67)).heap[w.heap.size]? = some (.cells #[.slice none 0 0, .int .i64 0, .slice none 0 0, .int .i64 0, .int .i64 0, .int .i64 0, .slice none 0 0] 67 (0, 0))) := Lib.hid (new_at _ _)
  obtain ⟨m, hv, rfl⟩ : ∃ m, wholeP l s = some (m, s') ∧ q = ⟨[], m⟩ := by
    cases hq : wholeP l s with
    | none => rw [hq] at he; cases he
    | some r => obtain ⟨m, t⟩ := r; rw [hq] at he; simp at he; obtain ⟨rfl, rfl⟩ := he; exact ⟨m, rfl, rfl⟩
  clear hx h hu0 he
  go_enter Tryd.func51, Tryd.ntmps51
  go_wp2_with fail
  refine (whole_calls p l htx _ s m s' HX0.out HR0.out hd hv).mono ?_
  rintro e w2 ⟨vv, rfl, hn, hR2, hu2, ha⟩
  obtain ⟨oa, na1, na2, na3, sa, ma, qa, la1, la2, la3, rfl⟩ := hn.six
  have hz := hu2.at HNew.out (by have := HpB.out; simp; omega)
  have z0 := cell_of hz 0
  have z1 := cell_of hz 1
  have z2 := cell_of hz 2
  have z3 := cell_of hz 3
  have z4 := cell_of hz 4
  have z5 := cell_of hz 5
  have z6 := cell_of hz 6
  have y0 := free_of hz 0
  have y1 := free_of hz 1
  have y2 := free_of hz 2
  have y3 := free_of hz 3
  have y4 := free_of hz 4
  have y5 := free_of hz 5
  have y6 := free_of hz 6
  simp only [List.getElem?_toArray, List.getElem?_cons_zero, List.getElem?_cons_succ] at z0 z1 z2 z3 z4 z5 z6
  have HZ := Lib.hid hz
  have HN := Lib.hid hn
  have HR2 := Lib.hid hR2
  have HU2 := Lib.hid hu2
  have HA := Lib.hid ha
  clear hn hR2 hu2 ha hz
  go_wp2_with fail
  have hst := q_store HZ.out (.slice none 0 0) (.int .i64 oa) (.slice na1 na2 na3) (.int .i64 sa) (.int .i64 ma) (.int .i64 qa) (.slice la1 la2 la3)
  have q0 := cell_of hst 0
  have q1 := cell_of hst 1
  have q2 := cell_of hst 2
  have q3 := cell_of hst 3
  have q4 := cell_of hst 4
  have q5 := cell_of hst 5
  have q6 := cell_of hst 6
  simp only [List.getElem?_toArray, List.getElem?_cons_zero, List.getElem?_cons_succ] at q0 q1 q2 q3 q4 q5 q6
  exact bodyPost_ret (v := .agg #[.slice none 0 0, .int .i64 oa, .slice na1 na2 na3, .int .i64 sa, .int .i64 ma, .int .i64 qa, .slice la1 la2 la3]) (by simp [results, Tryd.results51, go_sem, q0, q1, q2, q3, q4, q5, q6]) rfl (qpost_fin (q := ⟨[], m⟩) (P := New (w.alloc (.cells #[.slice none 0 0, .int .i64 0, .slice none 0 0, .int .i64 0, .int .i64 0, .int .i64 0, .slice none 0 0] 67))) (Nat.le_refl _) HpB.out (HU0.out.trans_same HU2.out) HR2.out HA.out SlP.nil HN.out (fun b hb _ => by have h1 := HU0.out.size; have h2 := lt_of_heap HNew.out; unfold New at hb ⊢; omega))

set_option maxRecDepth 100000 in
set_option maxHeartbeats 6400000 in
theorem query1_calls (w : World) (p : Nat) (l : List Tok) (htx : ∀ t ∈ l, t.text.length ≤ 65536) (s s' : PS) (q : Qn) (hx : Cx w p l) (h : RdAt w p l s) (hd : s.dp ≤ 256) (he : ((freeP l s).bind fun r1 => (wholeP l r1.2).map fun r => ((⟨r1.1, r.1⟩ : Qn), r.2)) = some (q, s')) :
    Calls Tryd.prog 53 #[.pointer (some ⟨p, 0, none⟩)] w (QPost w p l s q s') := by
  have HF : Hid (Fin l) := Lib.hid h.fin
  have hin := h.inb
  have HpB : Hid (p < w.heap.size) := Lib.hid h.lt
  have hu0 : Upto [] w (w.alloc (.cells #[.slice none 0 0, .int .i64 0, .slice none 0 0, .int .i64 0, .int .i64 0, .int .i64 0, .slice none 0 0] 67)) := (Upto.refl [] w).alloc _
  have HR0 := Lib.hid (h.ext hu0)
  have HX0 := Lib.hid (hx.ext hu0)
  have HU0 : Hid (Upto [p] w (w.alloc (.cells #[.slice none 0 0, .int .i64 0, .slice none 0 0, .int .i64 0, .int .i64 0, .int .i64 0, .slice none 0 0] 67))) := Lib.hid (hu0.mono (by simp))
  have HNew : Hid ((w.alloc (.cells #[.slice none 0 0, .int .i64 0, .slice none 0 0, .int .i64 0, .int .i64 0, .int .i64 0, .slice none 0 0] 67)).heap[w.heap.size]? = some (.cells #[.slice none 0 0, .int .i64 0, .slice none 0 0, .int .i64 0, .int .i64 0, .int .i64 0, .slice none 0 0] 67 (0, 0))) := Lib.hid (new_at _ _)
  have hlen := hx.len
  obtain ⟨fr, t, m, hv1, hv2, rfl⟩ : ∃ fr t m, freeP l s = some (fr, t) ∧ wholeP l t = some (m, s') ∧ q = ⟨fr, m⟩ := by
    cases hq : freeP l s with
    | none => rw [hq] at he; cases he
    | some r =>
      obtain ⟨fr, t⟩ := r
      rw [hq] at he
      simp only [Option.bind_some] at he
      cases hq2 : wholeP l t with
      | none => rw [hq2] at he; cases he
      | some r2 => obtain ⟨m, t2⟩ := r2; rw [hq2] at he; simp at he; obtain ⟨rfl, rfl⟩ := he; exact ⟨fr, t, m, rfl, hq2, rfl⟩
  clear hx h hu0 he
  go_enter Tryd.func53, Tryd.ntmps53
  go_wp2_with fail
  refine (free_calls _ p l s t fr HX0.out HR0.out hv1).mono ?_
  rintro e w1 ⟨vf, rfl, hf, hR1, hu1, ha1⟩
  obtain ⟨f1, f3, rfl⟩ := hf.len
  have HFV := Lib.hid hf
  have HR1 := Lib.hid hR1
  have HU1 := Lib.hid hu1
  have HA1 := Lib.hid ha1
  clear hf hR1 hu1 ha1
  go_wp2_with fail
  refine (whole_calls p l htx w1 t m s' (HX0.out.upto HU1.out) HR1.out (by rw [HA1.out.dp]; exact hd) hv2).mono ?_
  rintro e w2 ⟨vv, rfl, hn, hR2, hu2, ha⟩
  obtain ⟨oa, na1, na2, na3, sa, ma, qa, la1, la2, la3, rfl⟩ := hn.six
  have hz := hu2.at (HU1.out.at HNew.out (by have := HpB.out; simp; omega)) (by have := HpB.out; simp; omega)
  have z0 := cell_of hz 0
  have z1 := cell_of hz 1
  have z2 := cell_of hz 2
  have z3 := cell_of hz 3
  have z4 := cell_of hz 4
  have z5 := cell_of hz 5
  have z6 := cell_of hz 6
  have y0 := free_of hz 0
  have y1 := free_of hz 1
  have y2 := free_of hz 2
  have y3 := free_of hz 3
  have y4 := free_of hz 4
  have y5 := free_of hz 5
  have y6 := free_of hz 6
  simp only [List.getElem?_toArray, List.getElem?_cons_zero, List.getElem?_cons_succ] at z0 z1 z2 z3 z4 z5 z6
  have HZ := Lib.hid hz
  have HN := Lib.hid hn
  have HR2 := Lib.hid hR2
  have HU2 := Lib.hid hu2
  have HA := Lib.hid ha
  have HS := Lib.hid (And.intro (lt_of_heap HNew.out) (And.intro HU1.out.size HU0.out.size))
  have HF2 : Hid (VarsV w2 (New (w.alloc (.cells #[.slice none 0 0, .int .i64 0, .slice none 0 0, .int .i64 0, .int .i64 0, .int .i64 0, .slice none 0 0] 67))) (.slice f1 fr.length f3) fr) := Lib.hid (SlP.upto HFV.out hu2 (fun b hb _ => by have h1 := HS.out; have h2 := HpB.out; unfold New at hb; simp; omega))
  clear hn hR2 hu2 ha hz
  go_wp2_with fail
  have hst := q_store HZ.out (.slice f1 fr.length f3) (.int .i64 oa) (.slice na1 na2 na3) (.int .i64 sa) (.int .i64 ma) (.int .i64 qa) (.slice la1 la2 la3)
  have q0 := cell_of hst 0
  have q1 := cell_of hst 1
  have q2 := cell_of hst 2
  have q3 := cell_of hst 3
  have q4 := cell_of hst 4
  have q5 := cell_of hst 5
  have q6 := cell_of hst 6
  simp only [List.getElem?_toArray, List.getElem?_cons_zero, List.getElem?_cons_succ] at q0 q1 q2 q3 q4 q5 q6
  exact bodyPost_ret (v := .agg #[.slice f1 fr.length f3, .int .i64 oa, .slice na1 na2 na3, .int .i64 sa, .int .i64 ma, .int .i64 qa, .slice la1 la2 la3]) (by simp [results, Tryd.results53, go_sem, q0, q1, q2, q3, q4, q5, q6]) rfl (qpost_fin (q := ⟨fr, m⟩) (P := New (w.alloc (.cells #[.slice none 0 0, .int .i64 0, .slice none 0 0, .int .i64 0, .int .i64 0, .int .i64 0, .slice none 0 0] 67))) (Nat.le_refl _) HpB.out ((HU0.out.trans_same HU1.out).trans_same HU2.out) HR2.out (HA1.out.trans HA.out) HF2.out (HN.out.mono (fun b hb _ => by have h1 := HS.out; unfold New at hb ⊢; omega)) (fun b hb _ => by have h1 := HS.out; unfold New at hb ⊢; omega))
end Go.Proofs.YtkhbpebpljdifaaDoor

/- Equality of formulas and questions, where they are equal: Equal, EqualQueries. -/
namespace Go.Proofs.YtkhbpebpljdifaaDoor
open Go.RowKit Go.PL Go.Maps

mutual
/-- no node bears more names than a machine can hold -/
def bigN : Nd → Prop
  | .mk _ names _ _ _ l => names.length ≤ 10000000 ∧ bigsN l
def bigsN : List Nd → Prop
  | [] => True
  | x :: xs => bigN x ∧ bigsN xs
end
theorem bigs_mem : ∀ {l : List Nd} {x : Nd}, bigsN l → x ∈ l → bigN x
  | [], _, _, h => by cases h
  | y :: ys, x, h, hx => by
    unfold bigsN at h
    rcases List.mem_cons.1 hx with rfl | hx
    · exact h.1
    · exact bigs_mem h.2 hx
theorem sizesF_mem : ∀ {l : List Nd} {x : Nd}, x ∈ l → sizeF x ≤ sizesF l
  | [], _, h => by cases h
  | y :: ys, x, hx => by
    simp only [sizesF]
    rcases List.mem_cons.1 hx with rfl | hx
    · omega
    · have := sizesF_mem hx; omega
/-- a list of formulas, element by element -/
def LsAt (w : World) (P : Nat → Prop) (a : Option Addr) (l : List Nd) : Prop := ∀ i x, l[i]? = some x → ∃ (g o : Nat) (xo : Int) (xn1 : Option Addr) (xn2 xn3 : Nat) (xs xm xq : Int) (xl1 : Option Addr) (xl2 xl3 : Nat), a = some ⟨g, o, none⟩ ∧ w.cell? ⟨g, o + i * 6, none⟩ = some (.int .i64 xo) ∧ w.cell? ⟨g, o + i * 6 + 1, none⟩ = some (.slice xn1 xn2 xn3) ∧ w.cell? ⟨g, o + i * 6 + 2, none⟩ = some (.int .i64 xs) ∧ w.cell? ⟨g, o + i * 6 + 3, none⟩ = some (.int .i64 xm) ∧ w.cell? ⟨g, o + i * 6 + 4, none⟩ = some (.int .i64 xq) ∧ w.cell? ⟨g, o + i * 6 + 5, none⟩ = some (.slice xl1 xl2 xl3) ∧ NdV w P x (.agg #[.int .i64 xo, .slice xn1 xn2 xn3, .int .i64 xs, .int .i64 xm, .int .i64 xq, .slice xl1 xl2 xl3])
theorem NdV.open {w : World} {P : Nat → Prop} {op so n m : Int} {names : List (List UInt8)} {l : List Nd} {v : Value} (h : NdV w P (.mk op names so n m l) v) : ∃ a1 c1 a2 c2, v = .agg #[.int .i64 op, .slice a1 names.length c1, .int .i64 so, .int .i64 n, .int .i64 m, .slice a2 l.length c2] ∧ SlP w P (.slice a1 names.length c1) names.length (names.map sV) ∧ LsAt w P a2 l := by
  unfold NdV at h
  obtain ⟨vn, vl, rfl, h1, h2⟩ := h
  obtain ⟨n1, n3, rfl⟩ := h1.len
  rcases h2 with ⟨rfl, a, c, rfl⟩ | ⟨g, o, c, rfl, -, h3⟩
  · exact ⟨n1, n3, a, c, rfl, h1, fun i x h => by simp at h⟩
  · refine ⟨n1, n3, _, c, rfl, h1, fun i x hi => ?_⟩
    obtain ⟨v0, v1, v2, v3, v4, v5, c0, c1, c2, c3, c4, c5, hn⟩ := h3.get l o i x hi
    obtain ⟨xo, xn1, xn2, xn3, xs, xm, xq, xl1, xl2, xl3, hs⟩ := hn.six
    simp only [Value.agg.injEq, Array.mk.injEq, List.cons.injEq, and_true] at hs
    obtain ⟨rfl, rfl, rfl, rfl, rfl, rfl⟩ := hs
    exact ⟨g, o, xo, xn1, xn2, xn3, xs, xm, xq, xl1, xl2, xl3, rfl, c0, c1, c2, c3, c4, c5, hn⟩
theorem LsAt.ext {w w' : World} {P : Nat → Prop} {a : Option Addr} {l : List Nd} (h : LsAt w P a l) (hu : Upto [] w w') : LsAt w' P a l := fun i x hi => by
  obtain ⟨g, o, xo, xn1, xn2, xn3, xs, xm, xq, xl1, xl2, xl3, e, c0, c1, c2, c3, c4, c5, hn⟩ := h i x hi
  have up : ∀ {j : Nat} {u : Value}, w.cell? ⟨g, j, none⟩ = some u → w'.cell? ⟨g, j, none⟩ = some u := fun hc => (hu.cell (World.block_lt_of_cell? w _ hc) (by simp)).trans hc
  exact ⟨g, o, xo, xn1, xn2, xn3, xs, xm, xq, xl1, xl2, xl3, e, up c0, up c1, up c2, up c3, up c4, up c5, hn.ext hu⟩

set_option maxRecDepth 100000 in
set_option maxHeartbeats 6400000 in
/-- EqualFunc, its test answering yes at each pair -/
theorem eqf_same (l : List Nd) (a a' : Option Addr) (c c' : Nat) (P P' : Nat → Prop) (w : World) (hl : l.length ≤ 10000000) (h : LsAt w P a l) (h' : LsAt w P' a' l)
    (ih : ∀ x ∈ l, ∀ u u' w1, NdV w1 P x u → NdV w1 P' x u' → Calls Tryd.prog 56 #[u, u'] w1 fun e w' => e = .returned (.bool true) ∧ Upto [] w1 w') :
    Calls Tryd.prog 84 #[.slice a l.length c, .slice a' l.length c', .func (.func 56) #[] #[]] w fun e w' => e = .returned (.bool true) ∧ Upto [] w w' := by
  have HG := Lib.hid h
  have HG' := Lib.hid h'
  have HIH := Lib.hid ih
  clear h h' ih
  generalize hll : l.length = ll at *
  have HLL := Lib.hid hll
  have hL0 : (0 : Int) ≤ ll := by omega
  have hL1 : (ll : Int) ≤ 10000000 := by omega
  clear hll
  go_enter Tryd.func84, Tryd.ntmps84
  go_wp2_with fail
  go_loopw [17] (fun i wr => ∃ j : Nat, j ≤ ll ∧ i = .int .i64 j ∧ Hid (Upto [] w wr)) (fun i _ => ll - (intOf i).toNat)
  case atStart => exact ⟨0, by omega, rfl, Lib.hid (Upto.refl _ _)⟩
  case round =>
    obtain ⟨j, hj, rfl, HU⟩ := hrel
    rcases Nat.lt_or_ge j ll with hlt | hge
    · obtain ⟨x, hx⟩ : ∃ x, l[j]? = some x := ⟨_, List.getElem?_eq_getElem (by have := HLL.out; omega)⟩
      obtain ⟨g, o, xo, xn1, xn2, xn3, xs, xm, xq, xl1, xl2, xl3, rfl, -⟩ := HG.out j x hx
      obtain ⟨g', o', yo, yn1, yn2, yn3, ys, ym, yq, yl1, yl2, yl3, rfl, -⟩ := HG'.out j x hx
      obtain ⟨g1, o1, xo, xn1, xn2, xn3, xs, xm, xq, xl1, xl2, xl3, e1, c0, c1, c2, c3, c4, c5, hn⟩ := (HG.out.ext HU.out) j x hx
      have hua := (Upto.refl [] wr).alloc (.cells #[.int .i64 xo, .slice xn1 xn2 xn3, .int .i64 xs, .int .i64 xm, .int .i64 xq, .slice xl1 xl2 xl3] 59)
      obtain ⟨g2, o2, yo, yn1, yn2, yn3, ys, ym, yq, yl1, yl2, yl3, e2, d0, d1, d2, d3, d4, d5, hn'⟩ := (HG'.out.ext (HU.out.trans_ext hua)) j x hx
      simp at e1 e2
      obtain ⟨rfl, rfl⟩ := e1
      obtain ⟨rfl, rfl⟩ := e2
      have hub := (Upto.refl [] (wr.alloc (.cells #[.int .i64 xo, .slice xn1 xn2 xn3, .int .i64 xs, .int .i64 xm, .int .i64 xq, .slice xl1 xl2 xl3] 59))).alloc (.cells #[.int .i64 yo, .slice yn1 yn2 yn3, .int .i64 ys, .int .i64 ym, .int .i64 yq, .slice yl1 yl2 yl3] 59)
      have HC := Lib.hid (HIH.out x (List.mem_of_getElem? hx) _ _ ((wr.alloc (.cells #[.int .i64 xo, .slice xn1 xn2 xn3, .int .i64 xs, .int .i64 xm, .int .i64 xq, .slice xl1 xl2 xl3] 59)).alloc (.cells #[.int .i64 yo, .slice yn1 yn2 yn3, .int .i64 ys, .int .i64 ym, .int .i64 yq, .slice yl1 yl2 yl3] 59)) ((hn.ext hua).ext hub) (hn'.ext hub))
      have HU2 := Lib.hid ((HU.out.trans_ext hua).trans_ext hub)
      have hv8 := hub.at (new_at wr (.cells #[.int .i64 xo, .slice xn1 xn2 xn3, .int .i64 xs, .int .i64 xm, .int .i64 xq, .slice xl1 xl2 xl3] 59)) (by simp)
      have t0 := cell_of hv8 0
      have t1 := cell_of hv8 1
      have t2 := cell_of hv8 2
      have t3 := cell_of hv8 3
      have t4 := cell_of hv8 4
      have t5 := cell_of hv8 5
      have u0 := free_of hv8 0
      have u1 := free_of hv8 1
      have u2 := free_of hv8 2
      have u3 := free_of hv8 3
      have u4 := free_of hv8 4
      have u5 := free_of hv8 5
      simp only [List.getElem?_toArray, List.getElem?_cons_zero, List.getElem?_cons_succ] at t0 t1 t2 t3 t4 t5
      have hltI : (j : Int) < ll := by omega
      have hj0 : (0 : Int) ≤ j := by omega
      clear hx hn hn' hua hub hv8
      go_wp2_with fail
      refine HC.out.mono ?_
      rintro e w5 ⟨rfl, hu5⟩
      have HU5 := Lib.hid (HU2.out.trans_ext hu5)
      clear hu5
      go_wp2_with fail
      go_roundw
      case rel => exact ⟨j + 1, by omega, by go_num, HU5⟩
      case measure => simp [intOf]; omega
    · obtain rfl : j = ll := by omega
      have hgeI : (j : Int) ≥ j := by omega
      go_wp2
      go_ret
      exact ⟨rfl, HU.out⟩

set_option maxRecDepth 100000 in
set_option maxHeartbeats 6400000 in
/-- Equal, at equal formulas -/
theorem equal_same : ∀ (k : Nat) (nd : Nd), sizeF nd ≤ k → k ≤ 10000000 → ∀ (P P' : Nat → Prop) (v v' : Value) (w : World), bigN nd → NdV w P nd v → NdV w P' nd v' → Calls Tryd.prog 56 #[v, v'] w fun e w' => e = .returned (.bool true) ∧ Upto [] w w'
  | 0, nd, hk, _, _, _, _, _, _, _, _, _ => by have := sizeF_pos nd; omega
  | k + 1, .mk op nms so nn mm l, hk, hk7, P, P', v, v', w, hbg, h, h' => by
    obtain ⟨a1, c1, a2, c2, rfl, hs, hls⟩ := h.open
    obtain ⟨b1, d1, b2, d2, rfl, hs', hls'⟩ := h'.open
    unfold bigN at hbg
    have hsz : sizesF l ≤ k := by simp only [sizeF] at hk; omega
    have hln := sizes_len l
    have hu2 : Upto [] w ((w.alloc (.cells #[.int .i64 op, .slice a1 nms.length c1, .int .i64 so, .int .i64 nn, .int .i64 mm, .slice a2 l.length c2] 59)).alloc (.cells #[.int .i64 op, .slice b1 nms.length d1, .int .i64 so, .int .i64 nn, .int .i64 mm, .slice b2 l.length d2] 59)) := ((Upto.refl [] w).alloc _).alloc _
    have HN := Lib.hid (names_same nms _ _ P P' _ hbg.1 (hs.ext hu2) (hs'.ext hu2))
    have HF := Lib.hid (fun w1 (hu : Upto [] w w1) => eqf_same l a2 b2 c2 d2 P P' w1 (by omega) (hls.ext hu) (hls'.ext hu) (fun x hx u u' w2 hn hn' => equal_same k x (by have := sizesF_mem hx; omega) (by omega) P P' u u' w2 (bigs_mem hbg.2 hx) hn hn'))
    have HU2 := Lib.hid hu2
    have hb1 := alloc_old (new_at w (.cells #[.int .i64 op, .slice a1 nms.length c1, .int .i64 so, .int .i64 nn, .int .i64 mm, .slice a2 l.length c2] 59)) (.cells #[.int .i64 op, .slice b1 nms.length d1, .int .i64 so, .int .i64 nn, .int .i64 mm, .slice b2 l.length d2] 59)
    have hb2 := new_at1 w (.cells #[.int .i64 op, .slice a1 nms.length c1, .int .i64 so, .int .i64 nn, .int .i64 mm, .slice a2 l.length c2] 59) (.cells #[.int .i64 op, .slice b1 nms.length d1, .int .i64 so, .int .i64 nn, .int .i64 mm, .slice b2 l.length d2] 59)
    have HB1 := Lib.hid hb1
    have HB2 := Lib.hid hb2
    have x0 := cell_of hb1 0
    have x1 := cell_of hb1 1
    have x2 := cell_of hb1 2
    have x3 := cell_of hb1 3
    have x4 := cell_of hb1 4
    have x5 := cell_of hb1 5
    have y0 := free_of hb1 0
    have y1 := free_of hb1 1
    have y2 := free_of hb1 2
    have y3 := free_of hb1 3
    have y4 := free_of hb1 4
    have y5 := free_of hb1 5
    simp only [List.getElem?_toArray, List.getElem?_cons_zero, List.getElem?_cons_succ] at x0 x1 x2 x3 x4 x5
    have z0 := cell_of hb2 0
    have z1 := cell_of hb2 1
    have z2 := cell_of hb2 2
    have z3 := cell_of hb2 3
    have z4 := cell_of hb2 4
    have z5 := cell_of hb2 5
    have t0 := free_of hb2 0
    have t1 := free_of hb2 1
    have t2 := free_of hb2 2
    have t3 := free_of hb2 3
    have t4 := free_of hb2 4
    have t5 := free_of hb2 5
    simp only [List.getElem?_toArray, List.getElem?_cons_zero, List.getElem?_cons_succ] at z0 z1 z2 z3 z4 z5
    have e1 : (op == op) = true := by simp
    have e2 : (so == so) = true := by simp
    have e3 : (nn == nn) = true := by simp
    have e4 : (mm == mm) = true := by simp
    clear hs hls hs' hls' hu2 h h' hb1 hb2 hbg
    go_enter Tryd.func56, Tryd.ntmps56
    go_wp2_with fail
    refine HN.out.mono ?_
    rintro e w2 ⟨rfl, hu2⟩
    have hb1 := hu2.at HB1.out (by simp)
    have hb2 := hu2.at HB2.out (by simp)
    have p0 := cell_of hb1 0
    have p1 := cell_of hb1 1
    have p2 := cell_of hb1 2
    have p3 := cell_of hb1 3
    have p4 := cell_of hb1 4
    have p5 := cell_of hb1 5
    have q0 := free_of hb1 0
    have q1 := free_of hb1 1
    have q2 := free_of hb1 2
    have q3 := free_of hb1 3
    have q4 := free_of hb1 4
    have q5 := free_of hb1 5
    simp only [List.getElem?_toArray, List.getElem?_cons_zero, List.getElem?_cons_succ] at p0 p1 p2 p3 p4 p5
    have r0 := cell_of hb2 0
    have r1 := cell_of hb2 1
    have r2 := cell_of hb2 2
    have r3 := cell_of hb2 3
    have r4 := cell_of hb2 4
    have r5 := cell_of hb2 5
    have s0 := free_of hb2 0
    have s1 := free_of hb2 1
    have s2 := free_of hb2 2
    have s3 := free_of hb2 3
    have s4 := free_of hb2 4
    have s5 := free_of hb2 5
    simp only [List.getElem?_toArray, List.getElem?_cons_zero, List.getElem?_cons_succ] at r0 r1 r2 r3 r4 r5
    have HC := Lib.hid (HF.out w2 (HU2.out.trans_ext hu2))
    have HU3 := Lib.hid (HU2.out.trans_ext hu2)
    clear hu2 hb1 hb2
    go_wp2_with fail
    refine HC.out.mono ?_
    rintro e w3 ⟨rfl, hu3⟩
    have HU4 := Lib.hid (HU3.out.trans_ext hu3)
    clear hu3
    go_wp2_with fail
    go_ret
    exact ⟨rfl, HU4.out⟩
end Go.Proofs.YtkhbpebpljdifaaDoor

/- The parser's nodes bear few names. -/
namespace Go.Proofs.YtkhbpebpljdifaaDoor
open Go.PL

def Big (rd : Rd) : Prop := ∀ s n s', rd s = some (n, s') → bigN n
theorem big_nil (op so n m : Int) (xs : List (List UInt8)) (h : xs.length ≤ 10000000) : bigN (.mk op xs so n m []) := by
  unfold bigN bigsN
  exact ⟨h, trivial⟩
theorem big_one (op so n m : Int) (xs : List (List UInt8)) (x : Nd) (h : xs.length ≤ 10000000) (hx : bigN x) : bigN (.mk op xs so n m [x]) := by
  unfold bigN bigsN bigsN
  exact ⟨h, hx, trivial⟩
theorem big_two (op so n m : Int) (xs : List (List UInt8)) (x y : Nd) (h : xs.length ≤ 10000000) (hx : bigN x) (hy : bigN y) : bigN (.mk op xs so n m [x, y]) := by
  unfold bigN bigsN bigsN bigsN
  exact ⟨h, hx, hy, trivial⟩
theorem big_zero : bigN .zero := big_nil _ _ _ _ _ (by simp)
theorem big_level {of : Rd} (h : Big of) : Big (levelP of) := by
  intro s n s' he
  unfold levelP at he
  simp only at he
  generalize (if s.dp = 256 then wrongF 16 s else s) = s1 at he
  split at he
  · rw [Option.map_eq_some_iff] at he
    obtain ⟨⟨a, b⟩, h1, h2⟩ := he
    simp at h2
    exact h2.1 ▸ h _ _ _ h1
  · simp at he
    exact he.1 ▸ big_zero
theorem big_leftLoop {l : List Tok} {x : List UInt8} {op : Int} {of : Rd} (h : Big of) : ∀ (k : Nat) (n0 : Nd), bigN n0 → Big (leftLoop l x op of k n0)
  | 0, _, _ => by intro s n s' he; unfold leftLoop at he; cases he
  | k + 1, n0, hn => by
    intro s n s' he
    unfold leftLoop at he
    split at he
    · rw [Option.bind_eq_some_iff] at he
      obtain ⟨⟨a, b⟩, h1, h2⟩ := he
      exact big_leftLoop h k _ (big_two _ _ _ _ _ _ _ (by simp) hn (h _ _ _ h1)) _ _ _ h2
    · simp at he
      exact he.1 ▸ hn
theorem big_left {l : List Tok} {x : List UInt8} {op : Int} {of : Rd} (h : Big of) : Big (leftP l x op of) := by
  intro s n s' he
  unfold leftP at he
  rw [Option.bind_eq_some_iff] at he
  obtain ⟨⟨a, b⟩, h1, h2⟩ := he
  exact big_leftLoop h _ _ (h _ _ _ h1) _ _ _ h2
theorem big_fold : ∀ (l : List Nd), (∀ x ∈ l, bigN x) → bigN (implFold l)
  | [], _ => by unfold implFold; exact big_zero
  | [n], h => by unfold implFold; exact h n (by simp)
  | x :: y :: r, h => by
    unfold implFold
    exact big_two _ _ _ _ _ _ _ (by simp) (h x (by simp)) (big_fold (y :: r) fun z hz => h z (by simp only [List.mem_cons] at hz ⊢; exact Or.inr hz))
theorem big_implLoop {l : List Tok} {of : Rd} (h : Big of) : ∀ (k : Nat) (acc : List Nd) (s : PS) (r : List Nd) (s' : PS), (∀ x ∈ acc, bigN x) → implLoop l of k acc s = some (r, s') → ∀ x ∈ r, bigN x
  | 0, _, _, _, _, _, he => by unfold implLoop at he; cases he
  | k + 1, acc, s, r, s', ha, he => by
    unfold implLoop at he
    split at he
    · rw [Option.bind_eq_some_iff] at he
      obtain ⟨⟨a, b⟩, h1, h2⟩ := he
      refine big_implLoop h k _ _ _ _ (fun x hx => ?_) h2
      rcases List.mem_append.1 hx with hx | hx
      · exact ha x hx
      · simp at hx; subst hx; exact h _ _ _ h1
    · simp at he
      exact he.1 ▸ ha
theorem big_impl {l : List Tok} {of : Rd} (h : Big of) : Big (impliesP l of) := by
  intro s n s' he
  unfold impliesP at he
  rw [Option.bind_eq_some_iff] at he
  obtain ⟨⟨a, b⟩, h1, h2⟩ := he
  have ho : Big (orsP l of) := big_left (big_left h)
  simp only [Option.map_eq_some_iff] at h2
  obtain ⟨⟨c, d⟩, h3, h4⟩ := h2
  simp at h4
  exact h4.1 ▸ big_fold _ (big_implLoop ho _ _ _ _ _ (fun x hx => by simp at hx; subst hx; exact ho _ _ _ h1) h3)
theorem big_formula {l : List Tok} {of : Rd} (h : Big of) : Big (formulaP l of) := big_left (big_impl h)
theorem callLoop_len {l : List Tok} : ∀ (k : Nat) (xs : List (List UInt8)) (s : PS) (r : List (List UInt8)) (s' : PS), callLoop l k xs s = some (r, s') → r.length ≤ xs.length + k
  | 0, _, _, _, _, he => by unfold callLoop at he; cases he
  | k + 1, xs, s, r, s', he => by
    unfold callLoop at he
    simp only at he
    split at he
    · split at he
      · simp at he; rw [← he.1]; omega
      · split at he
        · have := callLoop_len k _ _ _ _ he
          simp at this
          omega
        · simp at he; rw [← he.1]; simp
    · simp at he; rw [← he.1]; omega
theorem big_call {l : List Tok} (hl : l.length ≤ 1000000) (f : List UInt8) : Big (callP l f) := by
  intro s n s' he
  unfold callP at he
  simp only at he
  split at he
  · simp at he; exact he.1 ▸ big_nil _ _ _ _ _ (by simp)
  · rw [Option.map_eq_some_iff] at he
    obtain ⟨⟨a, b⟩, h1, h2⟩ := he
    simp at h2
    have := callLoop_len _ _ _ _ _ h1
    simp at this
    exact h2.1 ▸ big_nil _ _ _ _ _ (by omega)
theorem big_atom {l : List Tok} (hl : l.length ≤ 1000000) : Big (atomP l) := by
  intro s n s' he
  unfold atomP at he
  simp only at he
  split at he
  · exact big_call hl _ _ _ _ he
  · split at he
    · simp at he; exact he.1 ▸ big_nil _ _ _ _ _ (by simp)
    · split at he
      · simp at he; exact he.1 ▸ big_nil _ _ _ _ _ (by simp)
      · simp at he; exact he.1 ▸ big_zero
theorem big_map {of : Rd} {f : PS → PS} {g : Nd × PS → Nd × PS} (h : Big of) (hg : ∀ r, bigN r.1 → bigN (g r).1) : Big (fun s => (of (f s)).map g) := by
  intro s n s' he
  simp only [Option.map_eq_some_iff] at he
  obtain ⟨r, h1, h2⟩ := he
  have := hg r (h _ _ _ h1)
  rw [h2] at this
  exact this
theorem big_operand {l : List Tok} (hl : l.length ≤ 1000000) : ∀ d, Big (operandP l d)
  | 0 => by intro s n s' he; unfold operandP at he; cases he
  | d + 1 => by
    have ih := big_operand hl d
    intro s n s' he
    unfold operandP at he
    simp only at he
    split at he
    · split at he
      · simp at he; exact he.1 ▸ big_nil _ _ _ _ _ (by simp)
      · split at he
        · simp at he; exact he.1 ▸ big_nil _ _ _ _ _ (by simp)
        · split at he
          · unfold sizeP at he; simp at he; exact he.1 ▸ big_nil _ _ _ _ _ (by simp)
          · split at he
            · unfold oneP at he; simp at he; exact he.1 ▸ big_nil _ _ _ _ _ (by simp)
            · split at he
              · exact big_level (big_map (f := fun s => s) ih (fun r h => big_one _ _ _ _ _ _ (by simp) h)) _ _ _ he
              · split at he
                · refine big_level ?_ _ _ _ he
                  intro s n s' he
                  simp only [Option.map_eq_some_iff] at he
                  obtain ⟨r, h1, h2⟩ := he
                  simp at h2
                  exact h2.1 ▸ big_one _ _ _ _ _ _ (by simp) (big_formula ih _ _ _ h1)
                · split at he
                  · refine big_level ?_ _ _ _ he
                    intro s n s' he
                    simp only [Option.map_eq_some_iff] at he
                    obtain ⟨r, h1, h2⟩ := he
                    simp at h2
                    exact h2.1 ▸ big_one _ _ _ _ _ _ (by simp) (big_formula ih _ _ _ h1)
                  · split at he
                    · refine big_level ?_ _ _ _ he
                      intro s n s' he
                      simp only [Option.map_eq_some_iff] at he
                      obtain ⟨r, h1, h2⟩ := he
                      simp at h2
                      exact h2.1 ▸ big_formula ih _ _ _ h1
                    · exact big_atom hl _ _ _ he
    · exact big_atom hl _ _ _ he
theorem big_query {l : List Tok} (hl : l.length ≤ 1000000) {q : Qn} {s' : PS} (h : queryP l = some (q, s')) : bigN q.body := by
  unfold queryP at h
  simp only [Option.bind_eq_some_iff, Option.map_eq_some_iff] at h
  obtain ⟨⟨f, s1⟩, -, ⟨n, s2⟩, h2, h3⟩ := h
  simp at h3
  rw [← h3.1]
  unfold wholeP at h2
  exact big_formula (big_operand hl _) _ _ _ h2
theorem big_end {l : List Tok} {q : Qn} {s : PS} (h : bigN q.body) : bigN (endF l q s).q.body := by
  unfold endF
  simp only
  generalize (if (tkAt l s).kind = 0 then s else wrongF 3 s) = s1
  split
  · split
    · exact h
    · exact big_zero
  · exact big_zero
end Go.Proofs.YtkhbpebpljdifaaDoor

/- Tokenize in the two cases; what the laws' walks share. -/
namespace Go.Proofs.YtkhbpebpljdifaaDoor
open Go.RowKit Go.PL Go.Maps

theorem tok_ok {s : List UInt8} {ts : List Tok} (h : lexT s = .ok ts) (hl : s.length ≤ 281474976710656) (u : World) (he : Env u) : Calls Tryd.prog 13 #[.string ⟨s.toArray⟩] u fun e w' => ∃ v, e = .returned (.tuple #[v, .agg #[.int .i64 0, .int .i64 0], .int .i64 0]) ∧ Toks w' v ts ∧ Upto [] u w' :=
  (tokenize_calls s u he hl).mono fun e w' hr => by
    obtain ⟨hr, hu⟩ := hr
    rcases hr with ⟨ts', v, hl', rfl, hT⟩ | ⟨l, c, n, hl', _⟩
    · rw [h] at hl'
      cases hl'
      exact ⟨v, rfl, hT, hu⟩
    · rw [h] at hl'
      cases hl'
theorem tok_err {s : List UInt8} {l c n : Nat} (h : lexT s = .error (l, c, n)) (hl : s.length ≤ 281474976710656) (li ci ni : Int) (h1 : li = l) (h2 : ci = c) (h3 : ni = n) (u : World) (he : Env u) : Calls Tryd.prog 13 #[.string ⟨s.toArray⟩] u fun e w' => e = .returned (.tuple #[.slice none 0 0, .agg #[.int .i64 li, .int .i64 ci], .int .i64 ni]) ∧ Upto [] u w' :=
  (tokenize_calls s u he hl).mono fun e w' hr => by
    obtain ⟨hr, hu⟩ := hr
    subst h1 h2 h3
    rcases hr with ⟨ts', v, hl', rfl, hT⟩ | ⟨l, c, n, hl', _, rfl⟩
    · rw [h] at hl'
      cases hl'
    · rw [h] at hl'
      cases hl'
      exact ⟨rfl, hu⟩
/-- an error is a range or a format -/
theorem classify_err {r : List UInt8} {n : Nat} (h : classify r = .error n) : n = 2 ∨ n = 3 := by
  cases r with
  | nil => cases h; simp
  | cons b t =>
    simp only [classify] at h
    split at h
    · split at h
      · cases h; simp
      · split at h
        · cases h; simp
        · cases h
    · split at h
      · cases h; simp
      · split at h
        · cases h
        · split at h
          · cases h; simp
          · cases h
theorem lexT_err {s : List UInt8} {l c n : Nat} (h : lexT s = .error (l, c, n)) : n = 2 ∨ n = 3 := by
  unfold lexT at h
  split at h
  · cases h; simp
  · refine lex_ind (M := fun s l c R => ∀ l' c' n', R = .error (l', c', n') → n' = 2 ∨ n' = 3) ?_ ?_ ?_ ?_ ?_ ?_ ?_ s.length s (Nat.le_refl _) 1 1 l c n h
    · intro l c l' c' n' h; cases h
    · intro b s l c _ _ ih; exact ih
    · intro b s l c _ _ ih; exact ih
    · intro b s l c _ ih l' c' n' h
      cases hR : lexS s l (c + 1) with
      | error e =>
        rw [hR] at h ih
        cases h
        exact ih _ _ _ rfl
      | ok ts => rw [hR] at h; cases h
    · intro r s l c k v _ _ _ _ ih l' c' n' h
      cases hR : lexS s l (c + r.length) with
      | error e =>
        rw [hR] at h ih
        cases h
        exact ih _ _ _ rfl
      | ok ts => rw [hR] at h; cases h
    · intro r s l c e _ _ _ hc l' c' n' h
      cases h
      exact classify_err hc
    · intro b s l c _ _ _ l' c' n' h
      cases h
      simp
theorem lexT_short {s : List UInt8} {ts : List Tok} (h : lexT s = .ok ts) : ts.length ≤ s.length + 1 := by
  have := outT_len s
  rw [h] at this
  exact this
end Go.Proofs.YtkhbpebpljdifaaDoor

/- The parser looks at no place of a token: tokens with the same keys are read alike. -/
namespace Go.Proofs.YtkhbpebpljdifaaDoor
open Go.PL

def Alike (l k : List Tok) : Prop := l.map Tok.key = k.map Tok.key
section
variable {l k : List Tok} (h : Alike l k)
include h
theorem al_len : l.length = k.length := by simpa using congrArg List.length h
theorem al_key (s : PS) : (tkAt l s).key = (tkAt k s).key := by
  have := congrArg (fun x => x[s.nx]?) h
  simp only [List.getElem?_map] at this
  unfold tkAt
  rw [List.getD_eq_getElem?_getD, List.getD_eq_getElem?_getD]
  cases hl : l[s.nx]? <;> cases hk : k[s.nx]? <;> rw [hl, hk] at this <;> simp at this ⊢
  exact this
theorem al_kind (s : PS) : (tkAt l s).kind = (tkAt k s).kind := congrArg Prod.fst (al_key h s)
theorem al_text (s : PS) : (tkAt l s).text = (tkAt k s).text := congrArg (fun p => p.2.1) (al_key h s)
theorem al_val (s : PS) : (tkAt l s).val = (tkAt k s).val := congrArg (fun p => p.2.2) (al_key h s)
theorem al_is : isF l = isF k := by funext x s; unfold isF; rw [al_kind h, al_text h]
theorem al_need : needF l = needF k := by funext x s; unfold needF; rw [al_is h]
theorem al_ident : identR l = identR k := by funext s; unfold identR; rw [al_kind h, al_text h]
theorem al_number : numberP l = numberP k := by funext a z s; unfold numberP; simp only [al_kind h, al_val h]
theorem al_first (s : PS) : ∀ (xs : List (List UInt8)) (i : Nat), firstF l s xs i = firstF k s xs i
  | [], _ => rfl
  | x :: xs, i => by unfold firstF; rw [al_is h, al_first s xs]
theorem al_sort : sortP l = sortP k := by funext s; unfold sortP; rw [al_first h]
theorem al_leftLoop (x : List UInt8) (op : Int) (of : Rd) : ∀ n : Nat, leftLoop l x op of n = leftLoop k x op of n
  | 0 => rfl
  | n + 1 => by funext m s; unfold leftLoop; rw [al_is h, al_leftLoop x op of n]
theorem al_left (x : List UInt8) (op : Int) (of : Rd) : leftP l x op of = leftP k x op of := by funext s; unfold leftP; rw [al_leftLoop h, al_len h]
theorem al_ors (of : Rd) : orsP l of = orsP k of := by unfold orsP; rw [al_left h, al_left h]
theorem al_implLoop (of : Rd) : ∀ n : Nat, implLoop l of n = implLoop k of n
  | 0 => rfl
  | n + 1 => by funext m s; unfold implLoop; rw [al_is h, al_implLoop of n]
theorem al_implies (of : Rd) : impliesP l of = impliesP k of := by funext s; unfold impliesP; rw [al_ors h, al_implLoop h, al_len h]
theorem al_formula (of : Rd) : formulaP l of = formulaP k of := by unfold formulaP; rw [al_implies h, al_left h]
theorem al_bind (op : Int) (fm : Rd) : bindP l op fm = bindP k op fm := by unfold bindP; rw [al_sort h, al_ident h, al_need h]
theorem al_paren (fm : Rd) : parenP l fm = parenP k fm := by unfold parenP; rw [al_need h]
theorem al_size : sizeP l = sizeP k := by funext s; unfold sizeP; rw [al_ident h, al_need h, al_number h]
theorem al_one : oneP l = oneP k := by funext s; unfold oneP; rw [al_ident h]
theorem al_callLoop : ∀ n : Nat, callLoop l n = callLoop k n
  | 0 => rfl
  | n + 1 => by funext xs s; unfold callLoop; rw [al_kind h, al_ident h, al_is h, al_need h, al_callLoop n]
theorem al_call (f : List UInt8) : callP l f = callP k f := by funext s; unfold callP; rw [al_is h, al_callLoop h, al_len h]
theorem al_atom : atomP l = atomP k := by
  funext s
  unfold atomP
  simp only [al_ident h, al_is h, al_number h, al_first h, al_call h]
theorem al_operand : ∀ d : Nat, operandP l d = operandP k d
  | 0 => rfl
  | d + 1 => by
    funext s
    unfold operandP
    simp only [al_kind h, al_text h, al_size h, al_one h, al_bind h, al_paren h, al_formula h, al_atom h, al_operand d]
theorem al_whole : wholeP l = wholeP k := by unfold wholeP; rw [al_formula h, al_operand h]
theorem al_freeLoop : ∀ n : Nat, freeLoop l n = freeLoop k n
  | 0 => rfl
  | n + 1 => by funext xs s; unfold freeLoop; simp only [al_kind h, al_text h, al_ident h, al_sort h, al_is h, al_need h, al_freeLoop n]
theorem al_free : freeP l = freeP k := by funext s; unfold freeP; rw [al_is h, al_freeLoop h, al_len h]
theorem al_query : queryP l = queryP k := by unfold queryP; rw [al_free h, al_whole h]
theorem al_bare : bareP l = bareP k := by unfold bareP; rw [al_whole h]
end
end Go.Proofs.YtkhbpebpljdifaaDoor

/- Blanks between tokens: the text with other blanks has the same tokens at other places; the places of tokens differ. -/
namespace Go.Proofs.YtkhbpebpljdifaaDoor
open Go.PL

/-- one place stands ahead of another -/
def Ahead (l c l' c' : Nat) : Prop := l < l' ∨ (l = l' ∧ c < c')
def NotBehind (l c l' c' : Nat) : Prop := l < l' ∨ (l = l' ∧ c ≤ c')
theorem lexS_places (s : List UInt8) (l c : Nat) (ts : List Tok) (h : lexS s l c = .ok ts) : (∀ t ∈ ts, NotBehind l c t.line t.col) ∧ ts.Pairwise fun a b => Ahead a.line a.col b.line b.col := by
  refine lex_ind (M := fun s l c R => ∀ ts, R = .ok ts → (∀ t ∈ ts, NotBehind l c t.line t.col) ∧ ts.Pairwise fun a b => Ahead a.line a.col b.line b.col) ?_ ?_ ?_ ?_ ?_ ?_ ?_ s.length s (Nat.le_refl _) l c ts h
  · intro l c ts h
    cases h
    exact ⟨fun t ht => by simp at ht; subst ht; exact Or.inr ⟨rfl, Nat.le_refl _⟩, by simp⟩
  · intro x s l c h hb ih ts he
    obtain ⟨h1, h2⟩ := ih ts he
    exact ⟨fun t ht => by have := h1 t ht; unfold NotBehind at this ⊢; omega, h2⟩
  · intro x s l c hb h ih ts he
    obtain ⟨h1, h2⟩ := ih ts he
    exact ⟨fun t ht => by have := h1 t ht; unfold NotBehind at this ⊢; omega, h2⟩
  · intro x s l c hm ih ts he
    generalize lexS s l (c + 1) = R at ih he
    cases R with
    | error e => cases he
    | ok us =>
      cases he
      obtain ⟨h1, h2⟩ := ih _ rfl
      refine ⟨fun t ht => ?_, List.pairwise_cons.2 ⟨fun t ht => ?_, h2⟩⟩
      · rcases List.mem_cons.1 ht with rfl | ht
        · exact Or.inr ⟨rfl, Nat.le_refl _⟩
        · have := h1 t ht; unfold NotBehind at this ⊢; omega
      · have := h1 t ht; unfold NotBehind at this; unfold Ahead; simp only; omega
  · intro r s l c k v hn hr hs hc ih ts he
    generalize lexS s l (c + r.length) = R at ih he
    have hl : 0 < r.length := List.length_pos_iff.2 hn
    cases R with
    | error e => cases he
    | ok us =>
      cases he
      obtain ⟨h1, h2⟩ := ih _ rfl
      refine ⟨fun t ht => ?_, List.pairwise_cons.2 ⟨fun t ht => ?_, h2⟩⟩
      · rcases List.mem_cons.1 ht with rfl | ht
        · exact Or.inr ⟨rfl, Nat.le_refl _⟩
        · have := h1 t ht; unfold NotBehind at this ⊢; omega
      · have := h1 t ht; unfold NotBehind at this; unfold Ahead; simp only; omega
  · intro r s l c e hn hr hs hc ts he
    cases he
  · intro x s l c hb hm hi ts he
    cases he
/-- tokens at different numbers stand at different places -/
theorem places_ne {ts : List Tok} (h : ts.Pairwise fun a b => Ahead a.line a.col b.line b.col) {i j : Nat} {t u : Tok} (hi : ts[i]? = some t) (hj : ts[j]? = some u) (hl : t.line = u.line) (hc : t.col = u.col) : i = j := by
  obtain ⟨h1, e1⟩ := List.getElem?_eq_some_iff.1 hi
  obtain ⟨h2, e2⟩ := List.getElem?_eq_some_iff.1 hj
  rw [List.pairwise_iff_getElem] at h
  rcases Nat.lt_trichotomy i j with hlt | he | hlt
  · have := h i j h1 h2 hlt
    rw [e1, e2] at this
    unfold Ahead at this
    omega
  · exact he
  · have := h j i h2 h1 hlt
    rw [e1, e2] at this
    unfold Ahead at this
    omega

/-- the law's gaps -/
def gapB : Nat → List UInt8
  | 0 => [32]
  | 1 => [10]
  | 2 => [9, 32]
  | 3 => [32, 13, 10]
  | _ => [32, 32, 32]
theorem gapB_ne (j : Nat) : gapB j ≠ [] := by unfold gapB; split <;> simp
theorem gapB_len (j : Nat) : (gapB j).length ≤ 3 := by unfold gapB; split <;> simp
theorem gapB_blank (j : Nat) : ∀ x ∈ gapB j, lxBlank x = true := by unfold gapB; split <;> (intro x hx; simp at hx; first | (subst hx; decide) | (rcases hx with rfl | rfl <;> decide) | (rcases hx with rfl | rfl | rfl <;> decide))
/-- the number of the gap ahead of token i -/
def gapN (bl : List Nat) (i : Nat) : Nat := bl.getD (i % bl.length) 0 % 5
/-- the text of the law -/
def blT (bl : List Nat) : List Tok → Nat → List UInt8
  | [], _ => []
  | t :: ts, i => gapB (gapN bl i) ++ (t.text ++ blT bl ts (i + 1))
theorem blT_snoc (bl : List Nat) (t : Tok) : ∀ (ts : List Tok) (i : Nat), blT bl (ts ++ [t]) i = blT bl ts i ++ (gapB (gapN bl (i + ts.length)) ++ t.text)
  | [], i => by simp [blT]
  | u :: ts, i => by
    rw [List.cons_append, blT, blT, blT_snoc bl t ts (i + 1)]
    simp only [List.append_assoc, List.length_cons]
    rw [show i + 1 + ts.length = i + (ts.length + 1) by omega]
theorem blT_len (bl : List Nat) : ∀ (ts : List Tok) (i : Nat), (blT bl ts i).length ≤ (ts.map fun t => t.text.length).sum + 3 * ts.length
  | [], i => by simp [blT]
  | u :: ts, i => by
    have h1 := gapB_len (gapN bl i)
    have h2 := blT_len bl ts (i + 1)
    simp only [blT, List.length_append, List.map_cons, List.sum_cons, List.length_cons]
    omega
theorem blT_spaced (bl : List Nat) (l c : Nat) : ∀ (ts : List Tok) (i : Nat), ∃ ws : List (List UInt8), ws.length = ts.length ∧ (∀ w ∈ ws, (∀ x ∈ w, lxBlank x = true) ∧ w ≠ []) ∧ blT bl (ts ++ [⟨0, [], 0, l, c⟩]) i = gapB (gapN bl i) ++ spaced ((ts.map Tok.text).zip ws)
  | [], i => ⟨[], rfl, fun _ h => (by cases h), by simp [blT, spaced]⟩
  | t :: ts, i => by
    obtain ⟨ws, h1, h2, h3⟩ := blT_spaced bl l c ts (i + 1)
    refine ⟨gapB (gapN bl (i + 1)) :: ws, by simpa using h1, ?_, ?_⟩
    · intro w hw
      rcases List.mem_cons.1 hw with rfl | hw
      · exact ⟨gapB_blank _, gapB_ne _⟩
      · exact h2 w hw
    · rw [List.cons_append, blT, h3, List.map_cons, List.zip_cons_cons, spaced]
theorem blT_lex (bl : List Nat) (ts : List Tok) (h : ∀ t ∈ ts, Real t.kind t.text t.val) (l c : Nat) : ∃ us l' c', lexS (blT bl (ts ++ [⟨0, [], 0, l, c⟩]) 0) 1 1 = .ok (us ++ [⟨0, [], 0, l', c'⟩]) ∧ us.map Tok.key = ts.map Tok.key := by
  obtain ⟨ws, h1, h2, h3⟩ := blT_spaced bl l c ts 0
  rw [h3]
  obtain ⟨l1, c1, h4⟩ := lexS_ws (gapB (gapN bl 0)) (spaced ((ts.map Tok.text).zip ws)) 1 1 (gapB_blank _)
  rw [h4]
  have := lexS_spaced ts ws [] l1 c1 h h1 (fun w hw => (h2 w hw).1) (fun j w hj _ => (h2 w (List.mem_of_getElem? hj)).2) (by simp)
  rwa [List.append_nil] at this

theorem sum_mono {α : Type} (f : α → Nat) (l : List α) (k : Nat) : ((l.take k).map f).sum ≤ (l.map f).sum := by
  conv => rhs; rw [← List.take_append_drop k l]
  rw [List.map_append, List.sum_append]
  omega
theorem fin_of {ts : List Tok} {l c : Nat} (h : ∀ t ∈ ts, Real t.kind t.text t.val) : Fin (ts ++ [⟨0, [], 0, l, c⟩]) := by
  intro i t hi hk
  by_cases hlt : i < ts.length
  · simp; omega
  · rw [List.getElem?_append_right (by omega)] at hi
    cases hd : i - ts.length with
    | zero =>
      rw [hd] at hi
      simp at hi
      subst hi
      exact absurd rfl hk
    | succ m =>
      rw [hd] at hi
      simp at hi
/-- the tokens of a text: they end in the end, their places differ, they begin in line 1 -/
theorem lexT_fin {s : List UInt8} {ts : List Tok} (h : lexT s = .ok ts) : Fin ts ∧ 0 < ts.length ∧ ts.length ≤ s.length + 1 ∧ s.length ≤ 65536 ∧ (ts.map fun t => t.text.length).sum ≤ s.length ∧ (∀ t ∈ ts, 1 ≤ t.line) ∧ (ts.Pairwise fun a b => Ahead a.line a.col b.line b.col) := by
  unfold lexT at h
  split at h
  · cases h
  · obtain ⟨ts', l', c', rfl, h1, h2, h3⟩ := lexS_real s 1 1 ts h
    obtain ⟨p1, p2⟩ := lexS_places s 1 1 _ h
    refine ⟨fin_of h1, by simp, by simp; omega, by omega, by simpa using h2, fun t ht => ?_, p2⟩
    have := p1 t ht
    unfold NotBehind at this
    omega
/-- all that the law needs to know of a text that reads -/
theorem bl_plain {s : List UInt8} {ts : List Tok} (hs : s.length ≤ 1000) (h : lexT s = .ok ts) (bl : List Nat) :
    (∀ k, (blT bl (ts.take k) 0).length ≤ 5000) ∧ ∃ us, lexT (blT bl ts 0) = .ok us ∧ Alike ts us := by
  have hl : lexT s = lexS s 1 1 := by rw [lexT, if_neg (by omega)]
  rw [hl] at h
  obtain ⟨ts', l', c', rfl, h1, h2, h3⟩ := lexS_real s 1 1 ts h
  have hlen : ∀ k, (blT bl ((ts' ++ [(⟨0, [], 0, l', c'⟩ : Tok)]).take k) 0).length ≤ 5000 := by
    intro k
    have h4 := blT_len bl ((ts' ++ [(⟨0, [], 0, l', c'⟩ : Tok)]).take k) 0
    have h5 := sum_mono (fun t : Tok => t.text.length) (ts' ++ [(⟨0, [], 0, l', c'⟩ : Tok)]) k
    simp only [List.map_append, List.sum_append, List.map_cons, List.map_nil, List.sum_cons, List.sum_nil, List.length_nil] at h5
    have h6 : ((ts' ++ [(⟨0, [], 0, l', c'⟩ : Tok)]).take k).length ≤ ts'.length + 1 := by
      rw [List.length_take]
      simp
      omega
    omega
  refine ⟨hlen, ?_⟩
  obtain ⟨us, l2, c2, h4, h5⟩ := blT_lex bl ts' h1 l' c'
  have h6 := hlen (ts' ++ [(⟨0, [], 0, l', c'⟩ : Tok)]).length
  rw [List.take_length] at h6
  refine ⟨_, by rw [lexT, if_neg (by omega)]; exact h4, ?_⟩
  unfold Alike
  rw [List.map_append, List.map_append, h5]
  rfl
end Go.Proofs.YtkhbpebpljdifaaDoor

/- The reader of formulas: read. -/
namespace Go.Proofs.YtkhbpebpljdifaaDoor
open Go.RowKit Go.PL Go.Maps

/-- what the parser of a text answers -/
def readF (qp : List Tok → Option (Qn × PS)) (x : List UInt8) : PR :=
  match lexT x with
  | .error (a, b, c) => ⟨.zero, a, b, c⟩
  | .ok ts => match qp ts with
    | some (q, s') => endF ts q s'
    | none => ⟨.zero, 0, 0, 0⟩
/-- the answer as a value -/
def PRPost (w : World) (r : PR) (e : Ending) (w' : World) : Prop :=
  ∃ v, e = .returned (.tuple #[v, .agg #[.int .i64 r.line, .int .i64 r.col], .int .i64 r.er]) ∧ QnV w' (New w) r.q v ∧ Upto [] w w'
theorem PRPost.drew {w w' : World} {r : PR} {e : Ending} (h : PRPost w r e w') : PRPost w r e w'.drew := by
  obtain ⟨v, he, hq, hu⟩ := h
  exact ⟨v, he, QnV.keep (w := w') (w' := w'.drew) ⟨Nat.le_refl _, fun b hb _ => ⟨hb, rfl⟩⟩ hq, hu.drew⟩
theorem p_store {w : World} {B : Nat} {x0 x1 : Value} {T : TypeId} (h : w.heap[B]? = some (.cells #[x0, x1] T (0, 0))) (a b : Value) : ((w.setCell ⟨B, 0, none⟩ a).setCell ⟨B, 1, none⟩ b).heap[B]? = some (.cells #[a, b] T (0, 0)) := by
  have := set_same (set_same h 0 a) 1 b
  simpa using this
/-- the three results stored -/
theorem prpost_fin {w W : World} {Bq Bp : Nat} {r : PR} {q : Qn} {P : Nat → Prop} {a b c d e f g x0 x1 x2 x3 x4 x5 x6 y0 y1 l1 c1 : Value} {li ci ei : Int} (hu : Upto [] w W) (hBq : w.heap.size ≤ Bq) (hBp : w.heap.size ≤ Bp) (hne : Bq ≠ Bp) (hq : QnV W P q (.agg #[a, b, c, d, e, f, g]))
    (hP : ∀ b, P b → IsC W b → New w b ∧ b ≠ Bq ∧ b ≠ Bp) (hz : W.heap[Bq]? = some (.cells #[x0, x1, x2, x3, x4, x5, x6] 67 (0, 0))) (hy : W.heap[Bp]? = some (.cells #[y0, y1] 24 (0, 0))) (hl : l1 = .int .i64 li) (hc : c1 = .int .i64 ci) (hr : r.q = q ∧ (r.line : Int) = li ∧ (r.col : Int) = ci ∧ (r.er : Int) = ei) :
    PRPost w r (.returned (.tuple #[.agg #[a, b, c, d, e, f, g], .agg #[l1, c1], .int .i64 ei])) (((((((((W.setCell ⟨Bq, 0, none⟩ a).setCell ⟨Bq, 1, none⟩ b).setCell ⟨Bq, 2, none⟩ c).setCell ⟨Bq, 3, none⟩ d).setCell ⟨Bq, 4, none⟩ e).setCell ⟨Bq, 5, none⟩ f).setCell ⟨Bq, 6, none⟩ g).setCell ⟨Bp, 0, none⟩ l1).setCell ⟨Bp, 1, none⟩ c1) ∧
    (((((((((W.setCell ⟨Bq, 0, none⟩ a).setCell ⟨Bq, 1, none⟩ b).setCell ⟨Bq, 2, none⟩ c).setCell ⟨Bq, 3, none⟩ d).setCell ⟨Bq, 4, none⟩ e).setCell ⟨Bq, 5, none⟩ f).setCell ⟨Bq, 6, none⟩ g).setCell ⟨Bp, 0, none⟩ l1).setCell ⟨Bp, 1, none⟩ c1).heap[Bq]? = some (.cells #[a, b, c, d, e, f, g] 67 (0, 0)) ∧ (((((((((W.setCell ⟨Bq, 0, none⟩ a).setCell ⟨Bq, 1, none⟩ b).setCell ⟨Bq, 2, none⟩ c).setCell ⟨Bq, 3, none⟩ d).setCell ⟨Bq, 4, none⟩ e).setCell ⟨Bq, 5, none⟩ f).setCell ⟨Bq, 6, none⟩ g).setCell ⟨Bp, 0, none⟩ l1).setCell ⟨Bp, 1, none⟩ c1).heap[Bp]? = some (.cells #[l1, c1] 24 (0, 0)) := by
  have h7 := q_store hz a b c d e f g
  have u7 := q_self W Bq a b c d e f g
  have hy7 := u7.at hy (by simp; omega)
  have u2 : Upto [Bp] (((((((W.setCell ⟨Bq, 0, none⟩ a).setCell ⟨Bq, 1, none⟩ b).setCell ⟨Bq, 2, none⟩ c).setCell ⟨Bq, 3, none⟩ d).setCell ⟨Bq, 4, none⟩ e).setCell ⟨Bq, 5, none⟩ f).setCell ⟨Bq, 6, none⟩ g) (((((((((W.setCell ⟨Bq, 0, none⟩ a).setCell ⟨Bq, 1, none⟩ b).setCell ⟨Bq, 2, none⟩ c).setCell ⟨Bq, 3, none⟩ d).setCell ⟨Bq, 4, none⟩ e).setCell ⟨Bq, 5, none⟩ f).setCell ⟨Bq, 6, none⟩ g).setCell ⟨Bp, 0, none⟩ l1).setCell ⟨Bp, 1, none⟩ c1) := ((Upto.refl _ _).setCell (Or.inl (by simp)) _).setCell (Or.inl (by simp)) _
  have h2 := p_store hy7 l1 c1
  have hsz := u7.size
  obtain ⟨rfl, rfl, rfl, rfl⟩ := hr
  subst hl hc
  refine ⟨⟨_, rfl, hq.keep ⟨Nat.le_trans u7.size u2.size, fun b hb hl => ?_⟩, ((q_up hu (Or.inr hBq) a b c d e f g).setCell (Or.inr (by simpa using hBp)) _).setCell (Or.inr (by simpa using hBp)) _⟩, u2.at h7 (by simpa using hne), h2⟩
  obtain ⟨k1, k2, k3⟩ := hP b hb hl
  exact ⟨k1, (u2.block b (Nat.lt_of_lt_of_le hl.lt u7.size) (by simpa using k3)).trans (u7.block b hl.lt (by simpa using k2))⟩

theorem text_le_sum {l : List Tok} {t : Tok} (h : t ∈ l) : t.text.length ≤ (l.map fun t => t.text.length).sum := by
  induction l with
  | nil => cases h
  | cons a l ih =>
    rw [List.map_cons, List.sum_cons]
    rcases List.mem_cons.1 h with rfl | h
    · omega
    · have := ih h
      omega
set_option maxRecDepth 100000 in
set_option maxHeartbeats 12800000 in
theorem read_calls (x : List UInt8) (hl : x.length ≤ 281474976710656) (k : FuncId) (qp : List Tok → Option (Qn × PS)) (w : World) (he : Env w) (hs : SEnv w) (hk : ∀ args w, (callFunc k args).run Tryd.prog w = .ok (.enter k args) w)
    (hq : ∀ l, Fin l → 0 < l.length → ∃ q s', qp l = some (q, s') ∧ Adv l ⟨0, 0, 0⟩ s' ∧ sizeF q.body ≤ 2 * l.length + 1)
    (hby : ∀ w p l q s', (∀ t ∈ l, t.text.length ≤ 65536) → Cx w p l → RdAt w p l ⟨0, 0, 0⟩ → qp l = some (q, s') → Calls Tryd.prog k #[.pointer (some ⟨p, 0, none⟩)] w (QPost w p l ⟨0, 0, 0⟩ q s')) :
    Calls Tryd.prog 50 #[.string ⟨x.toArray⟩, .func (.func k) #[] #[]] w (PRPost w (readF qp x)) := by
  have hu0 : Upto [] w ((w.alloc (.cells #[.slice none 0 0, .int .i64 0, .slice none 0 0, .int .i64 0, .int .i64 0, .int .i64 0, .slice none 0 0] 67)).alloc (.cells #[.int .i64 0, .int .i64 0] 24)) := ((Upto.refl [] w).alloc _).alloc _
  have HU0 := Lib.hid hu0
  have HBQ : Hid (((w.alloc (.cells #[.slice none 0 0, .int .i64 0, .slice none 0 0, .int .i64 0, .int .i64 0, .int .i64 0, .slice none 0 0] 67)).alloc (.cells #[.int .i64 0, .int .i64 0] 24)).heap[w.heap.size]? = some (.cells #[.slice none 0 0, .int .i64 0, .slice none 0 0, .int .i64 0, .int .i64 0, .int .i64 0, .slice none 0 0] 67 (0, 0))) := Lib.hid (alloc_old (new_at _ _) _)
  have HBP : Hid (((w.alloc (.cells #[.slice none 0 0, .int .i64 0, .slice none 0 0, .int .i64 0, .int .i64 0, .int .i64 0, .slice none 0 0] 67)).alloc (.cells #[.int .i64 0, .int .i64 0] 24)).heap[w.heap.size + 1]? = some (.cells #[.int .i64 0, .int .i64 0] 24 (0, 0))) := Lib.hid (new_at1 _ _ _)
  have HS := Lib.hid hs
  have hen := he.ext hu0
  cases hx : lexT x with
  | error r =>
    obtain ⟨a, b, c⟩ := r
    have HC := Lib.hid (tok_err hx hl a b c rfl rfl rfl _ hen)
    have hc0 := lexT_err hx
    have HR : Hid (readF qp x = ⟨.zero, a, b, c⟩) := Lib.hid (by unfold readF; rw [hx])
    have k1 : ((c : Int) != 0) = true := by rw [bne, show ((c : Int) == 0) = false by rw [beq_eq_false_iff_ne]; omega]; rfl
    clear hx hc0 hen he hs hq hby hu0
    go_enter Tryd.func50, Tryd.ntmps50
    go_wp2_with fail
    refine HC.out.mono ?_
    rintro e w2 ⟨rfl, hu2⟩
    have HSZ : Hid (w.heap.size < w2.heap.size ∧ w.heap.size + 1 < w2.heap.size) := Lib.hid ⟨lt_of_heap (hu2.at HBQ.out (by simp)), lt_of_heap (hu2.at HBP.out (by simp))⟩
    have hua := ((Upto.refl [] w2).alloc (.cells #[.int .i64 a, .int .i64 b] 24))
    have hbq := hua.at (hu2.at HBQ.out (by simp)) (by simp)
    have hbp := hua.at (hu2.at HBP.out (by simp)) (by simp)
    have hat : ((w2.alloc (.cells #[.int .i64 a, .int .i64 b] 24))).heap[w2.heap.size]? = some (.cells #[.int .i64 a, .int .i64 b] 24 (0, 0)) := new_at _ _
    have z0 := cell_of hbq 0
    have z1 := cell_of hbq 1
    have z2 := cell_of hbq 2
    have z3 := cell_of hbq 3
    have z4 := cell_of hbq 4
    have z5 := cell_of hbq 5
    have z6 := cell_of hbq 6
    have y0 := free_of hbq 0
    have y1 := free_of hbq 1
    have y2 := free_of hbq 2
    have y3 := free_of hbq 3
    have y4 := free_of hbq 4
    have y5 := free_of hbq 5
    have y6 := free_of hbq 6
    simp only [List.getElem?_toArray, List.getElem?_cons_zero, List.getElem?_cons_succ] at z0 z1 z2 z3 z4 z5 z6
    have d0 := cell_of hbp 0
    have d1 := cell_of hbp 1
    have f0 := free_of hbp 0
    have f1 := free_of hbp 1
    simp only [List.getElem?_toArray, List.getElem?_cons_zero, List.getElem?_cons_succ] at d0 d1
    have h0 := cell_of hat 0
    have h1 := cell_of hat 1
    have i0 := free_of hat 0
    have i1 := free_of hat 1
    simp only [List.getElem?_toArray, List.getElem?_cons_zero, List.getElem?_cons_succ] at h0 h1
    have hbqd := ((Upto.refl [] _).drew).at hbq (by simp)
    have zz0 := cell_of hbqd 0
    have zz1 := cell_of hbqd 1
    have zz2 := cell_of hbqd 2
    have zz3 := cell_of hbqd 3
    have zz4 := cell_of hbqd 4
    have zz5 := cell_of hbqd 5
    have zz6 := cell_of hbqd 6
    have yy0 := free_of hbqd 0
    have yy1 := free_of hbqd 1
    have yy2 := free_of hbqd 2
    have yy3 := free_of hbqd 3
    have yy4 := free_of hbqd 4
    have yy5 := free_of hbqd 5
    have yy6 := free_of hbqd 6
    simp only [List.getElem?_toArray, List.getElem?_cons_zero, List.getElem?_cons_succ] at zz0 zz1 zz2 zz3 zz4 zz5 zz6
    clear hbqd
    have hbpd := ((Upto.refl [] _).drew).at hbp (by simp)
    have dd0 := cell_of hbpd 0
    have dd1 := cell_of hbpd 1
    have ff0 := free_of hbpd 0
    have ff1 := free_of hbpd 1
    simp only [List.getElem?_toArray, List.getElem?_cons_zero, List.getElem?_cons_succ] at dd0 dd1
    clear hbpd
    have hatd := ((Upto.refl [] _).drew).at hat (by simp)
    have hh0 := cell_of hatd 0
    have hh1 := cell_of hatd 1
    have ii0 := free_of hatd 0
    have ii1 := free_of hatd 1
    simp only [List.getElem?_toArray, List.getElem?_cons_zero, List.getElem?_cons_succ] at hh0 hh1
    clear hatd
    have n1 : w.heap.size ≠ w2.heap.size := by have := HSZ.out; omega
    have n2 : w.heap.size + 1 ≠ w2.heap.size := by have := HSZ.out; omega
    have n3 : w2.heap.size ≠ w.heap.size := n1.symm
    have n4 : w2.heap.size ≠ w.heap.size + 1 := n2.symm
    have HF := Lib.hid (prpost_fin (q := .zero) (r := readF qp x) (P := fun _ => False) (li := a) (ci := b) (ei := c) ((HU0.out.trans_ext hu2).trans_ext hua) (Nat.le_refl _) (by omega : w.heap.size ≤ w.heap.size + 1) (by omega) (QnV.zero _ _) (fun b hb => hb.elim) hbq hbp rfl rfl (by rw [HR.out]; exact ⟨rfl, rfl, rfl, rfl⟩))
    clear hua hbq hbp hat hu2
    go_wp2_with fail
    go_region
    all_goals (
      go_wp2_with fail
      have hb7 := ((Upto.refl [] _).drew).at HF.out.2.1 (by simp)
      have hb2 := ((Upto.refl [] _).drew).at HF.out.2.2 (by simp)
      have q0 := cell_of hb7 0
      have q1 := cell_of hb7 1
      have q2 := cell_of hb7 2
      have q3 := cell_of hb7 3
      have q4 := cell_of hb7 4
      have q5 := cell_of hb7 5
      have q6 := cell_of hb7 6
      have p0 := cell_of hb2 0
      have p1 := cell_of hb2 1
      simp only [List.getElem?_toArray, List.getElem?_cons_zero, List.getElem?_cons_succ] at q0 q1 q2 q3 q4 q5 q6 p0 p1
      exact bodyPost_ret (v := .tuple #[.agg #[.slice none 0 0, .int .i64 0, .slice none 0 0, .int .i64 0, .int .i64 0, .int .i64 0, .slice none 0 0], .agg #[.int .i64 a, .int .i64 b], .int .i64 c]) (by simp [results, Tryd.results50, go_sem, q0, q1, q2, q3, q4, q5, q6, p0, p1]) rfl HF.out.1.drew)
  | ok ts =>
    have HC := Lib.hid (tok_ok hx hl _ hen)
    obtain ⟨hf, h0, hlen1, hlen2, hsum, -, -⟩ := lexT_fin hx
    obtain ⟨q, s', hqp, had, hsz⟩ := hq ts hf h0
    have htx : ∀ t ∈ ts, t.text.length ≤ 65536 := fun t ht => by have := text_le_sum ht; omega
    have HRF : Hid (readF qp x = endF ts q s') := Lib.hid (by unfold readF; rw [hx]; simp only; rw [hqp])
    have HQS : Hid (sizeF q.body ≤ 10000000) := Lib.hid (by omega)
    have HFI := Lib.hid hf
    have HBY := Lib.hid (fun w p (hX : Cx w p ts) (hR : RdAt w p ts ⟨0, 0, 0⟩) => hby w p ts q s' htx hX hR hqp)
    have HLN := Lib.hid (And.intro h0 (show ts.length ≤ 1000000 by omega))
    obtain ⟨tk, tx, tv, tl, tc, hT⟩ : ∃ tk tx tv tl tc, tkAt ts s' = ⟨tk, tx, tv, tl, tc⟩ := ⟨_, _, _, _, _, rfl⟩
    have HTK := Lib.hid hT
    have hfd : ∀ u, (Instr.field 36 (.agg #[.int .i64 tk, .string ⟨tx.toArray⟩, .int .i64 tv, .int .i64 tl, .int .i64 tc]) 0).run Tryd.prog u = .ok (.int .i64 tk) u := fun _ => by kernel_rfl
    have hfp : ∀ u, (Instr.field 36 (.agg #[.int .i64 tk, .string ⟨tx.toArray⟩, .int .i64 tv, .int .i64 tl, .int .i64 tc]) 3).run Tryd.prog u = .ok (.agg #[.int .i64 tl, .int .i64 tc]) u := fun _ => by kernel_rfl
    clear hx hen he hs hq hby hu0 hf h0 hlen1 hlen2 hsum hqp had hsz htx hT
    by_cases h1 : tk = 0
    · have k1 : ((tk : Int) != 0) = false := by rw [bne, show ((tk : Int) == 0) = true by simp [h1]]; rfl
      have HS1 : Hid (readF qp x = if s'.er = 0 then (if greatF q.body = 0 then ⟨q, 0, 0, 0⟩ else ⟨.zero, 0, 0, greatF q.body⟩) else ⟨.zero, tl, tc, s'.er⟩) := Lib.hid (by rw [HRF.out]; unfold endF; simp only [HTK.out, h1, if_true])
      obtain ⟨s1, hs1, hnx1⟩ : ∃ s1, s1 = s' ∧ s1.nx = s'.nx := ⟨s', rfl, rfl⟩
      clear h1
      rw [← hs1] at HS1
      have HT1 : Hid (tkAt ts s1 = ⟨tk, tx, tv, tl, tc⟩) := Lib.hid (by have h := HTK.out; unfold tkAt at h ⊢; rw [hnx1]; exact h)
      have HSE := Lib.hid hs1
      clear hs1 hnx1
      by_cases h2 : s1.er = 0
      · have k2 : ((s1.er : Int) != 0) = false := by rw [bne, show ((s1.er : Int) == 0) = true by simp [h2]]; rfl
        by_cases h3 : greatF q.body = 0
        · have k3 : ((greatF q.body : Int) != 0) = false := by rw [bne, show ((greatF q.body : Int) == 0) = true by simp [h3]]; rfl
          have HR : Hid (readF qp x = ⟨q, 0, 0, 0⟩) := Lib.hid (by rw [HS1.out, if_pos h2, if_pos h3])
          clear h2 h3
          go_enter Tryd.func50, Tryd.ntmps50
          go_wp2_with fail
          refine HC.out.mono ?_
          rintro e w2 ⟨tvv, rfl, hTv, hu2⟩
          obtain ⟨ta, tcap, rfl⟩ := hTv.len
          have HTV := Lib.hid hTv
          have HU2 := Lib.hid hu2
          clear hTv hu2
          go_wp2_with fail
          obtain ⟨W4, p, hW4, hpp, hR4, hU4, hX4, hq4, hp4, hord⟩ : ∃ W4 p, W4 = (w2.alloc (.cells #[.int .i64 0, .int .i64 0] 24)).alloc (.cells #[.slice ta ts.length tcap, .int .i64 0, .int .i64 0, .int .i64 0] 118) ∧ p = w2.heap.size + 1 ∧ RdAt W4 p ts ⟨0, 0, 0⟩ ∧ Upto [] w W4 ∧ Cx W4 p ts ∧ W4.heap[w.heap.size]? = some (.cells #[.slice none 0 0, .int .i64 0, .slice none 0 0, .int .i64 0, .int .i64 0, .int .i64 0, .slice none 0 0] 67 (0, 0)) ∧ W4.heap[w.heap.size + 1]? = some (.cells #[.int .i64 0, .int .i64 0] 24 (0, 0)) ∧ (w.heap.size + 1 < p) := by
            have ub := ((Upto.refl [] w2).alloc (.cells #[.int .i64 0, .int .i64 0] 24)).alloc (.cells #[.slice ta ts.length tcap, .int .i64 0, .int .i64 0, .int .i64 0] 118)
            have hb2 := HU2.out.at HBP.out (by simp)
            have h2 := lt_of_heap hb2
            have h22 := World.block_lt_of_cell? w _ HS.out.c0
            have h23 := HU0.out.size
            refine ⟨_, _, rfl, rfl, ⟨⟨_, new_at1 _ _ _, HTV.out.ext ub, ?_⟩, HLN.out.1, HFI.out⟩, (HU0.out.trans_ext HU2.out).trans_ext ub, ⟨HS.out.upto ((HU0.out.trans_ext HU2.out).trans_ext ub) (by simp), by simp at h22 h23; omega, HLN.out.2⟩, ub.at (HU2.out.at HBQ.out (by simp)) (by simp), ub.at hb2 (by simp), by omega⟩
            intro g o n c e
            rcases HTV.out.at with ⟨h0, _⟩ | ⟨g', o', c', e', hat⟩
            · have := HLN.out.1; rw [h0] at this; simp at this
            · rw [e'] at e
              simp at e
              obtain ⟨⟨rfl, rfl⟩, -, -⟩ := e
              obtain ⟨tt, ht⟩ : ∃ tt, ts[0]? = some tt := ⟨_, List.getElem?_eq_getElem HLN.out.1⟩
              have := World.block_lt_of_cell? w2 _ (hat _ _ ht).1
              simp at this
              omega
          rw [← hW4, ← hpp]
          have HR4 := Lib.hid hR4
          have HU4 := Lib.hid hU4
          have HX4 := Lib.hid hX4
          have HQ4 := Lib.hid hq4
          have HP4 := Lib.hid hp4
          have HO := Lib.hid hord
          clear hW4 hpp hR4 hU4 hX4 hq4 hp4 hord
          refine (HBY.out W4 p HX4.out HR4.out).mono ?_
          rintro e w5 ⟨vv, rfl, hqn, hR5, hu5, ha5⟩
          obtain ⟨g1, g2, g3, oa, na1, na2, na3, sa, ma, qa, la1, la2, la3, rfl⟩ := hqn.seven
          have hua := (Upto.refl [] w5).alloc (.cells #[.slice g1 g2 g3, .int .i64 oa, .slice na1 na2 na3, .int .i64 sa, .int .i64 ma, .int .i64 qa, .slice la1 la2 la3] 67)
          have HQN := Lib.hid (hqn.keep (Keep.upto (S := []) hua (by simp)))
          have HR5 := Lib.hid (hR5.ext hua)
          have HU5 := Lib.hid (hu5.trans_ext hua)
          have HQ5 := Lib.hid ((hu5.trans_ext hua).at HQ4.out (by have := HO.out; simp; omega))
          have HP5 := Lib.hid ((hu5.trans_ext hua).at HP4.out (by have := HO.out; simp; omega))
          have HT5 : Hid ((w5.alloc (.cells #[.slice g1 g2 g3, .int .i64 oa, .slice na1 na2 na3, .int .i64 sa, .int .i64 ma, .int .i64 qa, .slice la1 la2 la3] 67)).heap[w5.heap.size]? = some (.cells #[.slice g1 g2 g3, .int .i64 oa, .slice na1 na2 na3, .int .i64 sa, .int .i64 ma, .int .i64 qa, .slice la1 la2 la3] 67 (0, 0))) := Lib.hid (new_at _ _)
          have HZ5 := Lib.hid (And.intro (Nat.lt_of_lt_of_le HR4.out.lt hu5.size) (And.intro hu5.size HR4.out.lt))
          have HN := Lib.hid (next_calls _ p ts s' HR5.out)
          clear hqn hR5 hu5 ha5 hua
          go_wp2_with fail
          refine HN.out.mono ?_
          rintro e w6 ⟨rfl, hu6⟩
          rw [HTK.out]
          unfold tkA
          obtain ⟨w7, hw7⟩ : ∃ w7, w7 = w6 := ⟨_, rfl⟩
          rw [← hw7] at hu6 ⊢
          have HR7 : Hid (RdAt w7 p ts s1) := Lib.hid (by rw [HSE.out]; exact HR5.out.ext hu6)
          have HUX := Lib.hid (hu6.mono (S' := [p]) (by simp))
          clear hu6 HN hw7
          have HU7 := Lib.hid (HU5.out.trans_same HUX.out)
          have HQ7 := Lib.hid (HUX.out.at HQ5.out (by have := HO.out; simp; omega))
          have HP7 := Lib.hid (HUX.out.at HP5.out (by have := HO.out; simp; omega))
          have HT7 := Lib.hid (HUX.out.at HT5.out (by have := HZ5.out; simp; omega))
          have HQN7 : Hid (QnV w7 (New W4) q (.agg #[.slice g1 g2 g3, .int .i64 oa, .slice na1 na2 na3, .int .i64 sa, .int .i64 ma, .int .i64 qa, .slice la1 la2 la3])) := Lib.hid (HQN.out.keep (Keep.upto HUX.out (fun b hb _ => by have := HZ5.out; unfold New at hb; simp; omega)))
          have HUW : Hid (Upto [] w w7) := Lib.hid (HU4.out.trans HU7.out (fun k hk => Or.inr (by simp at hk; have := HO.out; omega)))
          obtain ⟨⟨vr, hb7, -, -⟩, -, -⟩ := id HR7.out
          have b2 := cell_of hb7 2
          unfold rdC at b2
          simp only [List.getElem?_toArray, List.getElem?_cons_zero, List.getElem?_cons_succ] at b2
          clear hb7
          have ht7 := HT7.out
          have t0 := cell_of ht7 0
          have t1 := cell_of ht7 1
          have t2 := cell_of ht7 2
          have t3 := cell_of ht7 3
          have t4 := cell_of ht7 4
          have t5 := cell_of ht7 5
          have t6 := cell_of ht7 6
          have u0 := free_of ht7 0
          have u1 := free_of ht7 1
          have u2 := free_of ht7 2
          have u3 := free_of ht7 3
          have u4 := free_of ht7 4
          have u5 := free_of ht7 5
          have u6 := free_of ht7 6
          simp only [List.getElem?_toArray, List.getElem?_cons_zero, List.getElem?_cons_succ] at t0 t1 t2 t3 t4 t5 t6
          obtain ⟨vf, a0, a1, a2, a3, a4, a5, eqn, hfv, hnv⟩ := HQN7.out
          simp only [Value.agg.injEq, Array.mk.injEq, List.cons.injEq, and_true] at eqn
          obtain ⟨rfl, rfl, rfl, rfl, rfl, rfl, rfl⟩ := eqn
          have HG := Lib.hid (great_calls q.body _ w7 _ hnv HQS.out)
          clear ht7 hfv hnv
          go_wp2_with fail
          refine HG.out.mono ?_
          clear t0 t1 t2 t3 t4 t5 t6 u0 u1 u2 u3 u4 u5 u6
          rintro e w8 ⟨rfl, hu8⟩
          have hbq := hu8.at HQ7.out (by simp)
          have hbp := hu8.at HP7.out (by simp)
          have hbt := hu8.at HT7.out (by simp)
          have t0 := cell_of hbt 0
          have t1 := cell_of hbt 1
          have t2 := cell_of hbt 2
          have t3 := cell_of hbt 3
          have t4 := cell_of hbt 4
          have t5 := cell_of hbt 5
          have t6 := cell_of hbt 6
          have u0 := free_of hbt 0
          have u1 := free_of hbt 1
          have u2 := free_of hbt 2
          have u3 := free_of hbt 3
          have u4 := free_of hbt 4
          have u5 := free_of hbt 5
          have u6 := free_of hbt 6
          simp only [List.getElem?_toArray, List.getElem?_cons_zero, List.getElem?_cons_succ] at t0 t1 t2 t3 t4 t5 t6
          have HTN := Lib.hid (show w5.heap.size ≠ w.heap.size ∧ w5.heap.size ≠ w.heap.size + 1 by have := HZ5.out; have := HO.out; omega)
          have HF := Lib.hid (prpost_fin (q := q) (r := readF qp x) (P := New W4) (li := 0) (ci := 0) (ei := 0) (HUW.out.trans_ext hu8) (Nat.le_refl _) (by omega : w.heap.size ≤ w.heap.size + 1) (by omega) (HQN7.out.keep (Keep.upto (S := []) hu8 (by simp))) (fun b hb _ => by have h1 := HZ5.out; have h2 := HO.out; unfold New at hb ⊢; omega) hbq hbp rfl rfl (by rw [HR.out]; exact ⟨rfl, rfl, rfl, rfl⟩))
          have z0 := cell_of hbq 0
          have z1 := cell_of hbq 1
          have z2 := cell_of hbq 2
          have z3 := cell_of hbq 3
          have z4 := cell_of hbq 4
          have z5 := cell_of hbq 5
          have z6 := cell_of hbq 6
          have y0 := free_of hbq 0
          have y1 := free_of hbq 1
          have y2 := free_of hbq 2
          have y3 := free_of hbq 3
          have y4 := free_of hbq 4
          have y5 := free_of hbq 5
          have y6 := free_of hbq 6
          simp only [List.getElem?_toArray, List.getElem?_cons_zero, List.getElem?_cons_succ] at z0 z1 z2 z3 z4 z5 z6
          have d0 := cell_of hbp 0
          have d1 := cell_of hbp 1
          have f0 := free_of hbp 0
          have f1 := free_of hbp 1
          simp only [List.getElem?_toArray, List.getElem?_cons_zero, List.getElem?_cons_succ] at d0 d1
          clear hbq hbp hu8
          go_wp2_with fail
          have hb7 := HF.out.2.1
          have hb2 := HF.out.2.2
          have q0 := cell_of hb7 0
          have q1 := cell_of hb7 1
          have q2 := cell_of hb7 2
          have q3 := cell_of hb7 3
          have q4 := cell_of hb7 4
          have q5 := cell_of hb7 5
          have q6 := cell_of hb7 6
          have p0 := cell_of hb2 0
          have p1 := cell_of hb2 1
          simp only [List.getElem?_toArray, List.getElem?_cons_zero, List.getElem?_cons_succ] at q0 q1 q2 q3 q4 q5 q6 p0 p1
          exact bodyPost_ret (v := .tuple #[.agg #[.slice g1 g2 g3, .int .i64 oa, .slice na1 na2 na3, .int .i64 sa, .int .i64 ma, .int .i64 qa, .slice la1 la2 la3], .agg #[.int .i64 0, .int .i64 0], .int .i64 0]) (by simp [results, Tryd.results50, go_sem, q0, q1, q2, q3, q4, q5, q6, p0, p1]) rfl HF.out.1
        · have k3 : ((greatF q.body : Int) != 0) = true := by rw [bne, show ((greatF q.body : Int) == 0) = false by rw [beq_eq_false_iff_ne]; omega]; rfl
          have HR : Hid (readF qp x = ⟨.zero, 0, 0, greatF q.body⟩) := Lib.hid (by rw [HS1.out, if_pos h2, if_neg h3])
          clear h2 h3
          go_enter Tryd.func50, Tryd.ntmps50
          go_wp2_with fail
          refine HC.out.mono ?_
          rintro e w2 ⟨tvv, rfl, hTv, hu2⟩
          obtain ⟨ta, tcap, rfl⟩ := hTv.len
          have HTV := Lib.hid hTv
          have HU2 := Lib.hid hu2
          clear hTv hu2
          go_wp2_with fail
          obtain ⟨W4, p, hW4, hpp, hR4, hU4, hX4, hq4, hp4, hord⟩ : ∃ W4 p, W4 = (w2.alloc (.cells #[.int .i64 0, .int .i64 0] 24)).alloc (.cells #[.slice ta ts.length tcap, .int .i64 0, .int .i64 0, .int .i64 0] 118) ∧ p = w2.heap.size + 1 ∧ RdAt W4 p ts ⟨0, 0, 0⟩ ∧ Upto [] w W4 ∧ Cx W4 p ts ∧ W4.heap[w.heap.size]? = some (.cells #[.slice none 0 0, .int .i64 0, .slice none 0 0, .int .i64 0, .int .i64 0, .int .i64 0, .slice none 0 0] 67 (0, 0)) ∧ W4.heap[w.heap.size + 1]? = some (.cells #[.int .i64 0, .int .i64 0] 24 (0, 0)) ∧ (w.heap.size + 1 < p) := by
            have ub := ((Upto.refl [] w2).alloc (.cells #[.int .i64 0, .int .i64 0] 24)).alloc (.cells #[.slice ta ts.length tcap, .int .i64 0, .int .i64 0, .int .i64 0] 118)
            have hb2 := HU2.out.at HBP.out (by simp)
            have h2 := lt_of_heap hb2
            have h22 := World.block_lt_of_cell? w _ HS.out.c0
            have h23 := HU0.out.size
            refine ⟨_, _, rfl, rfl, ⟨⟨_, new_at1 _ _ _, HTV.out.ext ub, ?_⟩, HLN.out.1, HFI.out⟩, (HU0.out.trans_ext HU2.out).trans_ext ub, ⟨HS.out.upto ((HU0.out.trans_ext HU2.out).trans_ext ub) (by simp), by simp at h22 h23; omega, HLN.out.2⟩, ub.at (HU2.out.at HBQ.out (by simp)) (by simp), ub.at hb2 (by simp), by omega⟩
            intro g o n c e
            rcases HTV.out.at with ⟨h0, _⟩ | ⟨g', o', c', e', hat⟩
            · have := HLN.out.1; rw [h0] at this; simp at this
            · rw [e'] at e
              simp at e
              obtain ⟨⟨rfl, rfl⟩, -, -⟩ := e
              obtain ⟨tt, ht⟩ : ∃ tt, ts[0]? = some tt := ⟨_, List.getElem?_eq_getElem HLN.out.1⟩
              have := World.block_lt_of_cell? w2 _ (hat _ _ ht).1
              simp at this
              omega
          rw [← hW4, ← hpp]
          have HR4 := Lib.hid hR4
          have HU4 := Lib.hid hU4
          have HX4 := Lib.hid hX4
          have HQ4 := Lib.hid hq4
          have HP4 := Lib.hid hp4
          have HO := Lib.hid hord
          clear hW4 hpp hR4 hU4 hX4 hq4 hp4 hord
          refine (HBY.out W4 p HX4.out HR4.out).mono ?_
          rintro e w5 ⟨vv, rfl, hqn, hR5, hu5, ha5⟩
          obtain ⟨g1, g2, g3, oa, na1, na2, na3, sa, ma, qa, la1, la2, la3, rfl⟩ := hqn.seven
          have hua := (Upto.refl [] w5).alloc (.cells #[.slice g1 g2 g3, .int .i64 oa, .slice na1 na2 na3, .int .i64 sa, .int .i64 ma, .int .i64 qa, .slice la1 la2 la3] 67)
          have HQN := Lib.hid (hqn.keep (Keep.upto (S := []) hua (by simp)))
          have HR5 := Lib.hid (hR5.ext hua)
          have HU5 := Lib.hid (hu5.trans_ext hua)
          have HQ5 := Lib.hid ((hu5.trans_ext hua).at HQ4.out (by have := HO.out; simp; omega))
          have HP5 := Lib.hid ((hu5.trans_ext hua).at HP4.out (by have := HO.out; simp; omega))
          have HT5 : Hid ((w5.alloc (.cells #[.slice g1 g2 g3, .int .i64 oa, .slice na1 na2 na3, .int .i64 sa, .int .i64 ma, .int .i64 qa, .slice la1 la2 la3] 67)).heap[w5.heap.size]? = some (.cells #[.slice g1 g2 g3, .int .i64 oa, .slice na1 na2 na3, .int .i64 sa, .int .i64 ma, .int .i64 qa, .slice la1 la2 la3] 67 (0, 0))) := Lib.hid (new_at _ _)
          have HZ5 := Lib.hid (And.intro (Nat.lt_of_lt_of_le HR4.out.lt hu5.size) (And.intro hu5.size HR4.out.lt))
          have HN := Lib.hid (next_calls _ p ts s' HR5.out)
          clear hqn hR5 hu5 ha5 hua
          go_wp2_with fail
          refine HN.out.mono ?_
          rintro e w6 ⟨rfl, hu6⟩
          rw [HTK.out]
          unfold tkA
          obtain ⟨w7, hw7⟩ : ∃ w7, w7 = w6 := ⟨_, rfl⟩
          rw [← hw7] at hu6 ⊢
          have HR7 : Hid (RdAt w7 p ts s1) := Lib.hid (by rw [HSE.out]; exact HR5.out.ext hu6)
          have HUX := Lib.hid (hu6.mono (S' := [p]) (by simp))
          clear hu6 HN hw7
          have HU7 := Lib.hid (HU5.out.trans_same HUX.out)
          have HQ7 := Lib.hid (HUX.out.at HQ5.out (by have := HO.out; simp; omega))
          have HP7 := Lib.hid (HUX.out.at HP5.out (by have := HO.out; simp; omega))
          have HT7 := Lib.hid (HUX.out.at HT5.out (by have := HZ5.out; simp; omega))
          have HQN7 : Hid (QnV w7 (New W4) q (.agg #[.slice g1 g2 g3, .int .i64 oa, .slice na1 na2 na3, .int .i64 sa, .int .i64 ma, .int .i64 qa, .slice la1 la2 la3])) := Lib.hid (HQN.out.keep (Keep.upto HUX.out (fun b hb _ => by have := HZ5.out; unfold New at hb; simp; omega)))
          have HUW : Hid (Upto [] w w7) := Lib.hid (HU4.out.trans HU7.out (fun k hk => Or.inr (by simp at hk; have := HO.out; omega)))
          obtain ⟨⟨vr, hb7, -, -⟩, -, -⟩ := id HR7.out
          have b2 := cell_of hb7 2
          unfold rdC at b2
          simp only [List.getElem?_toArray, List.getElem?_cons_zero, List.getElem?_cons_succ] at b2
          clear hb7
          have ht7 := HT7.out
          have t0 := cell_of ht7 0
          have t1 := cell_of ht7 1
          have t2 := cell_of ht7 2
          have t3 := cell_of ht7 3
          have t4 := cell_of ht7 4
          have t5 := cell_of ht7 5
          have t6 := cell_of ht7 6
          have u0 := free_of ht7 0
          have u1 := free_of ht7 1
          have u2 := free_of ht7 2
          have u3 := free_of ht7 3
          have u4 := free_of ht7 4
          have u5 := free_of ht7 5
          have u6 := free_of ht7 6
          simp only [List.getElem?_toArray, List.getElem?_cons_zero, List.getElem?_cons_succ] at t0 t1 t2 t3 t4 t5 t6
          obtain ⟨vf, a0, a1, a2, a3, a4, a5, eqn, hfv, hnv⟩ := HQN7.out
          simp only [Value.agg.injEq, Array.mk.injEq, List.cons.injEq, and_true] at eqn
          obtain ⟨rfl, rfl, rfl, rfl, rfl, rfl, rfl⟩ := eqn
          have HG := Lib.hid (great_calls q.body _ w7 _ hnv HQS.out)
          clear ht7 hfv hnv
          go_wp2_with fail
          refine HG.out.mono ?_
          clear t0 t1 t2 t3 t4 t5 t6 u0 u1 u2 u3 u4 u5 u6
          rintro e w8 ⟨rfl, hu8⟩
          have hbq := hu8.at HQ7.out (by simp)
          have hbp := hu8.at HP7.out (by simp)
          have HF := Lib.hid (prpost_fin (q := .zero) (r := readF qp x) (P := fun _ => False) (li := 0) (ci := 0) (ei := greatF q.body) (HUW.out.trans_ext hu8) (Nat.le_refl _) (by omega : w.heap.size ≤ w.heap.size + 1) (by omega) (QnV.zero _ _) (fun b hb => hb.elim) hbq hbp rfl rfl (by rw [HR.out]; exact ⟨rfl, rfl, rfl, rfl⟩))
          have z0 := cell_of hbq 0
          have z1 := cell_of hbq 1
          have z2 := cell_of hbq 2
          have z3 := cell_of hbq 3
          have z4 := cell_of hbq 4
          have z5 := cell_of hbq 5
          have z6 := cell_of hbq 6
          have y0 := free_of hbq 0
          have y1 := free_of hbq 1
          have y2 := free_of hbq 2
          have y3 := free_of hbq 3
          have y4 := free_of hbq 4
          have y5 := free_of hbq 5
          have y6 := free_of hbq 6
          simp only [List.getElem?_toArray, List.getElem?_cons_zero, List.getElem?_cons_succ] at z0 z1 z2 z3 z4 z5 z6
          have d0 := cell_of hbp 0
          have d1 := cell_of hbp 1
          have f0 := free_of hbp 0
          have f1 := free_of hbp 1
          simp only [List.getElem?_toArray, List.getElem?_cons_zero, List.getElem?_cons_succ] at d0 d1
          clear hbq hbp hu8
          go_wp2_with fail
          have hb7 := HF.out.2.1
          have hb2 := HF.out.2.2
          have q0 := cell_of hb7 0
          have q1 := cell_of hb7 1
          have q2 := cell_of hb7 2
          have q3 := cell_of hb7 3
          have q4 := cell_of hb7 4
          have q5 := cell_of hb7 5
          have q6 := cell_of hb7 6
          have p0 := cell_of hb2 0
          have p1 := cell_of hb2 1
          simp only [List.getElem?_toArray, List.getElem?_cons_zero, List.getElem?_cons_succ] at q0 q1 q2 q3 q4 q5 q6 p0 p1
          exact bodyPost_ret (v := .tuple #[.agg #[.slice none 0 0, .int .i64 0, .slice none 0 0, .int .i64 0, .int .i64 0, .int .i64 0, .slice none 0 0], .agg #[.int .i64 0, .int .i64 0], .int .i64 (greatF q.body)]) (by simp [results, Tryd.results50, go_sem, q0, q1, q2, q3, q4, q5, q6, p0, p1]) rfl HF.out.1
      · have k2 : ((s1.er : Int) != 0) = true := by rw [bne, show ((s1.er : Int) == 0) = false by rw [beq_eq_false_iff_ne]; omega]; rfl
        have HR : Hid (readF qp x = ⟨.zero, tl, tc, s1.er⟩) := Lib.hid (by rw [HS1.out, if_neg h2])
        clear h2
        go_enter Tryd.func50, Tryd.ntmps50
        go_wp2_with fail
        refine HC.out.mono ?_
        rintro e w2 ⟨tvv, rfl, hTv, hu2⟩
        obtain ⟨ta, tcap, rfl⟩ := hTv.len
        have HTV := Lib.hid hTv
        have HU2 := Lib.hid hu2
        clear hTv hu2
        go_wp2_with fail
        obtain ⟨W4, p, hW4, hpp, hR4, hU4, hX4, hq4, hp4, hord⟩ : ∃ W4 p, W4 = (w2.alloc (.cells #[.int .i64 0, .int .i64 0] 24)).alloc (.cells #[.slice ta ts.length tcap, .int .i64 0, .int .i64 0, .int .i64 0] 118) ∧ p = w2.heap.size + 1 ∧ RdAt W4 p ts ⟨0, 0, 0⟩ ∧ Upto [] w W4 ∧ Cx W4 p ts ∧ W4.heap[w.heap.size]? = some (.cells #[.slice none 0 0, .int .i64 0, .slice none 0 0, .int .i64 0, .int .i64 0, .int .i64 0, .slice none 0 0] 67 (0, 0)) ∧ W4.heap[w.heap.size + 1]? = some (.cells #[.int .i64 0, .int .i64 0] 24 (0, 0)) ∧ (w.heap.size + 1 < p) := by
          have ub := ((Upto.refl [] w2).alloc (.cells #[.int .i64 0, .int .i64 0] 24)).alloc (.cells #[.slice ta ts.length tcap, .int .i64 0, .int .i64 0, .int .i64 0] 118)
          have hb2 := HU2.out.at HBP.out (by simp)
          have h2 := lt_of_heap hb2
          have h22 := World.block_lt_of_cell? w _ HS.out.c0
          have h23 := HU0.out.size
          refine ⟨_, _, rfl, rfl, ⟨⟨_, new_at1 _ _ _, HTV.out.ext ub, ?_⟩, HLN.out.1, HFI.out⟩, (HU0.out.trans_ext HU2.out).trans_ext ub, ⟨HS.out.upto ((HU0.out.trans_ext HU2.out).trans_ext ub) (by simp), by simp at h22 h23; omega, HLN.out.2⟩, ub.at (HU2.out.at HBQ.out (by simp)) (by simp), ub.at hb2 (by simp), by omega⟩
          intro g o n c e
          rcases HTV.out.at with ⟨h0, _⟩ | ⟨g', o', c', e', hat⟩
          · have := HLN.out.1; rw [h0] at this; simp at this
          · rw [e'] at e
            simp at e
            obtain ⟨⟨rfl, rfl⟩, -, -⟩ := e
            obtain ⟨tt, ht⟩ : ∃ tt, ts[0]? = some tt := ⟨_, List.getElem?_eq_getElem HLN.out.1⟩
            have := World.block_lt_of_cell? w2 _ (hat _ _ ht).1
            simp at this
            omega
        rw [← hW4, ← hpp]
        have HR4 := Lib.hid hR4
        have HU4 := Lib.hid hU4
        have HX4 := Lib.hid hX4
        have HQ4 := Lib.hid hq4
        have HP4 := Lib.hid hp4
        have HO := Lib.hid hord
        clear hW4 hpp hR4 hU4 hX4 hq4 hp4 hord
        refine (HBY.out W4 p HX4.out HR4.out).mono ?_
        rintro e w5 ⟨vv, rfl, hqn, hR5, hu5, ha5⟩
        obtain ⟨g1, g2, g3, oa, na1, na2, na3, sa, ma, qa, la1, la2, la3, rfl⟩ := hqn.seven
        have hua := (Upto.refl [] w5).alloc (.cells #[.slice g1 g2 g3, .int .i64 oa, .slice na1 na2 na3, .int .i64 sa, .int .i64 ma, .int .i64 qa, .slice la1 la2 la3] 67)
        have HQN := Lib.hid (hqn.keep (Keep.upto (S := []) hua (by simp)))
        have HR5 := Lib.hid (hR5.ext hua)
        have HU5 := Lib.hid (hu5.trans_ext hua)
        have HQ5 := Lib.hid ((hu5.trans_ext hua).at HQ4.out (by have := HO.out; simp; omega))
        have HP5 := Lib.hid ((hu5.trans_ext hua).at HP4.out (by have := HO.out; simp; omega))
        have HT5 : Hid ((w5.alloc (.cells #[.slice g1 g2 g3, .int .i64 oa, .slice na1 na2 na3, .int .i64 sa, .int .i64 ma, .int .i64 qa, .slice la1 la2 la3] 67)).heap[w5.heap.size]? = some (.cells #[.slice g1 g2 g3, .int .i64 oa, .slice na1 na2 na3, .int .i64 sa, .int .i64 ma, .int .i64 qa, .slice la1 la2 la3] 67 (0, 0))) := Lib.hid (new_at _ _)
        have HZ5 := Lib.hid (And.intro (Nat.lt_of_lt_of_le HR4.out.lt hu5.size) (And.intro hu5.size HR4.out.lt))
        have HN := Lib.hid (next_calls _ p ts s' HR5.out)
        clear hqn hR5 hu5 ha5 hua
        go_wp2_with fail
        refine HN.out.mono ?_
        rintro e w6 ⟨rfl, hu6⟩
        rw [HTK.out]
        unfold tkA
        obtain ⟨w7, hw7⟩ : ∃ w7, w7 = w6 := ⟨_, rfl⟩
        rw [← hw7] at hu6 ⊢
        have HR7 : Hid (RdAt w7 p ts s1) := Lib.hid (by rw [HSE.out]; exact HR5.out.ext hu6)
        have HUX := Lib.hid (hu6.mono (S' := [p]) (by simp))
        clear hu6 HN hw7
        have HU7 := Lib.hid (HU5.out.trans_same HUX.out)
        have HQ7 := Lib.hid (HUX.out.at HQ5.out (by have := HO.out; simp; omega))
        have HP7 := Lib.hid (HUX.out.at HP5.out (by have := HO.out; simp; omega))
        have HT7 := Lib.hid (HUX.out.at HT5.out (by have := HZ5.out; simp; omega))
        have HQN7 : Hid (QnV w7 (New W4) q (.agg #[.slice g1 g2 g3, .int .i64 oa, .slice na1 na2 na3, .int .i64 sa, .int .i64 ma, .int .i64 qa, .slice la1 la2 la3])) := Lib.hid (HQN.out.keep (Keep.upto HUX.out (fun b hb _ => by have := HZ5.out; unfold New at hb; simp; omega)))
        have HUW : Hid (Upto [] w w7) := Lib.hid (HU4.out.trans HU7.out (fun k hk => Or.inr (by simp at hk; have := HO.out; omega)))
        obtain ⟨⟨vr, hb7, -, -⟩, -, -⟩ := id HR7.out
        have b2 := cell_of hb7 2
        unfold rdC at b2
        simp only [List.getElem?_toArray, List.getElem?_cons_zero, List.getElem?_cons_succ] at b2
        have HB7 := Lib.hid hb7
        have b3 := cell_of (((Upto.refl [] w7).drew).at hb7 (by simp)) 2
        unfold rdC at b3
        simp only [List.getElem?_toArray, List.getElem?_cons_zero, List.getElem?_cons_succ] at b3
        have HN7 := Lib.hid (next_calls w7.drew p ts s1 (HR7.out.ext ((Upto.refl [] w7).drew)))
        clear hb7
        go_wp2_with fail
        go_region_with (
          refine HN7.out.mono ?_
          rintro e w8 ⟨rfl, hu8⟩
          rw [HT1.out]
          unfold tkA
          have hu8b := ((Upto.refl [] w7).drew).trans_ext hu8
          have hbq := hu8b.at HQ7.out (by simp)
          have hbp := hu8b.at HP7.out (by simp)
          have b4 := cell_of (hu8b.at HB7.out (by simp)) 2
          unfold rdC at b4
          simp only [List.getElem?_toArray, List.getElem?_cons_zero, List.getElem?_cons_succ] at b4
          have z0 := cell_of hbq 0
          have z1 := cell_of hbq 1
          have z2 := cell_of hbq 2
          have z3 := cell_of hbq 3
          have z4 := cell_of hbq 4
          have z5 := cell_of hbq 5
          have z6 := cell_of hbq 6
          have y0 := free_of hbq 0
          have y1 := free_of hbq 1
          have y2 := free_of hbq 2
          have y3 := free_of hbq 3
          have y4 := free_of hbq 4
          have y5 := free_of hbq 5
          have y6 := free_of hbq 6
          simp only [List.getElem?_toArray, List.getElem?_cons_zero, List.getElem?_cons_succ] at z0 z1 z2 z3 z4 z5 z6
          have d0 := cell_of hbp 0
          have d1 := cell_of hbp 1
          have f0 := free_of hbp 0
          have f1 := free_of hbp 1
          simp only [List.getElem?_toArray, List.getElem?_cons_zero, List.getElem?_cons_succ] at d0 d1
          have n1 : w.heap.size ≠ p := by have := HO.out; omega
          have n2 : w.heap.size + 1 ≠ p := by have := HO.out; omega
          have n3 : p ≠ w.heap.size := n1.symm
          have n4 : p ≠ w.heap.size + 1 := n2.symm
          have HF := Lib.hid (prpost_fin (q := .zero) (r := readF qp x) (P := fun _ => False) (li := tl) (ci := tc) (ei := s1.er) (HUW.out.trans_ext hu8b) (Nat.le_refl _) (by omega : w.heap.size ≤ w.heap.size + 1) (by omega) (QnV.zero _ _) (fun b hb => hb.elim) hbq hbp rfl rfl (by rw [HR.out]; exact ⟨rfl, rfl, rfl, rfl⟩))
          clear hbq hbp hu8 hu8b)
        all_goals (
          go_wp2_with fail
          have hb7 := HF.out.2.1
          have hb2 := HF.out.2.2
          have q0 := cell_of hb7 0
          have q1 := cell_of hb7 1
          have q2 := cell_of hb7 2
          have q3 := cell_of hb7 3
          have q4 := cell_of hb7 4
          have q5 := cell_of hb7 5
          have q6 := cell_of hb7 6
          have p0 := cell_of hb2 0
          have p1 := cell_of hb2 1
          simp only [List.getElem?_toArray, List.getElem?_cons_zero, List.getElem?_cons_succ] at q0 q1 q2 q3 q4 q5 q6 p0 p1
          exact bodyPost_ret (v := .tuple #[.agg #[.slice none 0 0, .int .i64 0, .slice none 0 0, .int .i64 0, .int .i64 0, .int .i64 0, .slice none 0 0], .agg #[.int .i64 tl, .int .i64 tc], .int .i64 s1.er]) (by simp [results, Tryd.results50, go_sem, q0, q1, q2, q3, q4, q5, q6, p0, p1]) rfl HF.out.1)
    · have k1 : ((tk : Int) != 0) = true := by rw [bne, show ((tk : Int) == 0) = false by rw [beq_eq_false_iff_ne]; omega]; rfl
      have HS1 : Hid (readF qp x = if (wrongF 3 s').er = 0 then (if greatF q.body = 0 then ⟨q, 0, 0, 0⟩ else ⟨.zero, 0, 0, greatF q.body⟩) else ⟨.zero, tl, tc, (wrongF 3 s').er⟩) := Lib.hid (by
        have : tkAt ts (wrongF 3 s') = ⟨tk, tx, tv, tl, tc⟩ := by unfold tkAt; rw [wrongF_nx]; exact HTK.out
        rw [HRF.out]
        unfold endF
        simp only [HTK.out, if_neg h1, this])
      obtain ⟨s1, hs1, hnx1⟩ : ∃ s1, s1 = wrongF 3 s' ∧ s1.nx = s'.nx := ⟨_, rfl, wrongF_nx 3 s'⟩
      clear h1
      rw [← hs1] at HS1
      have HT1 : Hid (tkAt ts s1 = ⟨tk, tx, tv, tl, tc⟩) := Lib.hid (by have h := HTK.out; unfold tkAt at h ⊢; rw [hnx1]; exact h)
      have HSE := Lib.hid hs1
      clear hs1 hnx1
      by_cases h2 : s1.er = 0
      · have k2 : ((s1.er : Int) != 0) = false := by rw [bne, show ((s1.er : Int) == 0) = true by simp [h2]]; rfl
        by_cases h3 : greatF q.body = 0
        · have k3 : ((greatF q.body : Int) != 0) = false := by rw [bne, show ((greatF q.body : Int) == 0) = true by simp [h3]]; rfl
          have HR : Hid (readF qp x = ⟨q, 0, 0, 0⟩) := Lib.hid (by rw [HS1.out, if_pos h2, if_pos h3])
          clear h2 h3
          go_enter Tryd.func50, Tryd.ntmps50
          go_wp2_with fail
          refine HC.out.mono ?_
          rintro e w2 ⟨tvv, rfl, hTv, hu2⟩
          obtain ⟨ta, tcap, rfl⟩ := hTv.len
          have HTV := Lib.hid hTv
          have HU2 := Lib.hid hu2
          clear hTv hu2
          go_wp2_with fail
          obtain ⟨W4, p, hW4, hpp, hR4, hU4, hX4, hq4, hp4, hord⟩ : ∃ W4 p, W4 = (w2.alloc (.cells #[.int .i64 0, .int .i64 0] 24)).alloc (.cells #[.slice ta ts.length tcap, .int .i64 0, .int .i64 0, .int .i64 0] 118) ∧ p = w2.heap.size + 1 ∧ RdAt W4 p ts ⟨0, 0, 0⟩ ∧ Upto [] w W4 ∧ Cx W4 p ts ∧ W4.heap[w.heap.size]? = some (.cells #[.slice none 0 0, .int .i64 0, .slice none 0 0, .int .i64 0, .int .i64 0, .int .i64 0, .slice none 0 0] 67 (0, 0)) ∧ W4.heap[w.heap.size + 1]? = some (.cells #[.int .i64 0, .int .i64 0] 24 (0, 0)) ∧ (w.heap.size + 1 < p) := by
            have ub := ((Upto.refl [] w2).alloc (.cells #[.int .i64 0, .int .i64 0] 24)).alloc (.cells #[.slice ta ts.length tcap, .int .i64 0, .int .i64 0, .int .i64 0] 118)
            have hb2 := HU2.out.at HBP.out (by simp)
            have h2 := lt_of_heap hb2
            have h22 := World.block_lt_of_cell? w _ HS.out.c0
            have h23 := HU0.out.size
            refine ⟨_, _, rfl, rfl, ⟨⟨_, new_at1 _ _ _, HTV.out.ext ub, ?_⟩, HLN.out.1, HFI.out⟩, (HU0.out.trans_ext HU2.out).trans_ext ub, ⟨HS.out.upto ((HU0.out.trans_ext HU2.out).trans_ext ub) (by simp), by simp at h22 h23; omega, HLN.out.2⟩, ub.at (HU2.out.at HBQ.out (by simp)) (by simp), ub.at hb2 (by simp), by omega⟩
            intro g o n c e
            rcases HTV.out.at with ⟨h0, _⟩ | ⟨g', o', c', e', hat⟩
            · have := HLN.out.1; rw [h0] at this; simp at this
            · rw [e'] at e
              simp at e
              obtain ⟨⟨rfl, rfl⟩, -, -⟩ := e
              obtain ⟨tt, ht⟩ : ∃ tt, ts[0]? = some tt := ⟨_, List.getElem?_eq_getElem HLN.out.1⟩
              have := World.block_lt_of_cell? w2 _ (hat _ _ ht).1
              simp at this
              omega
          rw [← hW4, ← hpp]
          have HR4 := Lib.hid hR4
          have HU4 := Lib.hid hU4
          have HX4 := Lib.hid hX4
          have HQ4 := Lib.hid hq4
          have HP4 := Lib.hid hp4
          have HO := Lib.hid hord
          clear hW4 hpp hR4 hU4 hX4 hq4 hp4 hord
          refine (HBY.out W4 p HX4.out HR4.out).mono ?_
          rintro e w5 ⟨vv, rfl, hqn, hR5, hu5, ha5⟩
          obtain ⟨g1, g2, g3, oa, na1, na2, na3, sa, ma, qa, la1, la2, la3, rfl⟩ := hqn.seven
          have hua := (Upto.refl [] w5).alloc (.cells #[.slice g1 g2 g3, .int .i64 oa, .slice na1 na2 na3, .int .i64 sa, .int .i64 ma, .int .i64 qa, .slice la1 la2 la3] 67)
          have HQN := Lib.hid (hqn.keep (Keep.upto (S := []) hua (by simp)))
          have HR5 := Lib.hid (hR5.ext hua)
          have HU5 := Lib.hid (hu5.trans_ext hua)
          have HQ5 := Lib.hid ((hu5.trans_ext hua).at HQ4.out (by have := HO.out; simp; omega))
          have HP5 := Lib.hid ((hu5.trans_ext hua).at HP4.out (by have := HO.out; simp; omega))
          have HT5 : Hid ((w5.alloc (.cells #[.slice g1 g2 g3, .int .i64 oa, .slice na1 na2 na3, .int .i64 sa, .int .i64 ma, .int .i64 qa, .slice la1 la2 la3] 67)).heap[w5.heap.size]? = some (.cells #[.slice g1 g2 g3, .int .i64 oa, .slice na1 na2 na3, .int .i64 sa, .int .i64 ma, .int .i64 qa, .slice la1 la2 la3] 67 (0, 0))) := Lib.hid (new_at _ _)
          have HZ5 := Lib.hid (And.intro (Nat.lt_of_lt_of_le HR4.out.lt hu5.size) (And.intro hu5.size HR4.out.lt))
          have HN := Lib.hid (next_calls _ p ts s' HR5.out)
          clear hqn hR5 hu5 ha5 hua
          go_wp2_with fail
          refine HN.out.mono ?_
          rintro e w6 ⟨rfl, hu6⟩
          rw [HTK.out]
          unfold tkA
          have HR6 := Lib.hid (HR5.out.ext hu6)
          have HUA6 := Lib.hid hu6
          clear hu6 HN
          go_wp2_with fail
          refine (wrong_calls w6 p 3 ts s' HR6.out).mono ?_
          rintro e w7 ⟨rfl, hR7, hu7⟩
          rw [← HSE.out] at hR7
          have HR7 := Lib.hid hR7
          have HUX := Lib.hid ((HUA6.out.mono (S' := [p]) (by simp)).trans_same hu7)
          clear hR7 hu7
          have HU7 := Lib.hid (HU5.out.trans_same HUX.out)
          have HQ7 := Lib.hid (HUX.out.at HQ5.out (by have := HO.out; simp; omega))
          have HP7 := Lib.hid (HUX.out.at HP5.out (by have := HO.out; simp; omega))
          have HT7 := Lib.hid (HUX.out.at HT5.out (by have := HZ5.out; simp; omega))
          have HQN7 : Hid (QnV w7 (New W4) q (.agg #[.slice g1 g2 g3, .int .i64 oa, .slice na1 na2 na3, .int .i64 sa, .int .i64 ma, .int .i64 qa, .slice la1 la2 la3])) := Lib.hid (HQN.out.keep (Keep.upto HUX.out (fun b hb _ => by have := HZ5.out; unfold New at hb; simp; omega)))
          have HUW : Hid (Upto [] w w7) := Lib.hid (HU4.out.trans HU7.out (fun k hk => Or.inr (by simp at hk; have := HO.out; omega)))
          obtain ⟨⟨vr, hb7, -, -⟩, -, -⟩ := id HR7.out
          have b2 := cell_of hb7 2
          unfold rdC at b2
          simp only [List.getElem?_toArray, List.getElem?_cons_zero, List.getElem?_cons_succ] at b2
          clear hb7
          have ht7 := HT7.out
          have t0 := cell_of ht7 0
          have t1 := cell_of ht7 1
          have t2 := cell_of ht7 2
          have t3 := cell_of ht7 3
          have t4 := cell_of ht7 4
          have t5 := cell_of ht7 5
          have t6 := cell_of ht7 6
          have u0 := free_of ht7 0
          have u1 := free_of ht7 1
          have u2 := free_of ht7 2
          have u3 := free_of ht7 3
          have u4 := free_of ht7 4
          have u5 := free_of ht7 5
          have u6 := free_of ht7 6
          simp only [List.getElem?_toArray, List.getElem?_cons_zero, List.getElem?_cons_succ] at t0 t1 t2 t3 t4 t5 t6
          obtain ⟨vf, a0, a1, a2, a3, a4, a5, eqn, hfv, hnv⟩ := HQN7.out
          simp only [Value.agg.injEq, Array.mk.injEq, List.cons.injEq, and_true] at eqn
          obtain ⟨rfl, rfl, rfl, rfl, rfl, rfl, rfl⟩ := eqn
          have HG := Lib.hid (great_calls q.body _ w7 _ hnv HQS.out)
          clear ht7 hfv hnv
          go_wp2_with fail
          refine HG.out.mono ?_
          clear t0 t1 t2 t3 t4 t5 t6 u0 u1 u2 u3 u4 u5 u6
          rintro e w8 ⟨rfl, hu8⟩
          have hbq := hu8.at HQ7.out (by simp)
          have hbp := hu8.at HP7.out (by simp)
          have hbt := hu8.at HT7.out (by simp)
          have t0 := cell_of hbt 0
          have t1 := cell_of hbt 1
          have t2 := cell_of hbt 2
          have t3 := cell_of hbt 3
          have t4 := cell_of hbt 4
          have t5 := cell_of hbt 5
          have t6 := cell_of hbt 6
          have u0 := free_of hbt 0
          have u1 := free_of hbt 1
          have u2 := free_of hbt 2
          have u3 := free_of hbt 3
          have u4 := free_of hbt 4
          have u5 := free_of hbt 5
          have u6 := free_of hbt 6
          simp only [List.getElem?_toArray, List.getElem?_cons_zero, List.getElem?_cons_succ] at t0 t1 t2 t3 t4 t5 t6
          have HTN := Lib.hid (show w5.heap.size ≠ w.heap.size ∧ w5.heap.size ≠ w.heap.size + 1 by have := HZ5.out; have := HO.out; omega)
          have HF := Lib.hid (prpost_fin (q := q) (r := readF qp x) (P := New W4) (li := 0) (ci := 0) (ei := 0) (HUW.out.trans_ext hu8) (Nat.le_refl _) (by omega : w.heap.size ≤ w.heap.size + 1) (by omega) (HQN7.out.keep (Keep.upto (S := []) hu8 (by simp))) (fun b hb _ => by have h1 := HZ5.out; have h2 := HO.out; unfold New at hb ⊢; omega) hbq hbp rfl rfl (by rw [HR.out]; exact ⟨rfl, rfl, rfl, rfl⟩))
          have z0 := cell_of hbq 0
          have z1 := cell_of hbq 1
          have z2 := cell_of hbq 2
          have z3 := cell_of hbq 3
          have z4 := cell_of hbq 4
          have z5 := cell_of hbq 5
          have z6 := cell_of hbq 6
          have y0 := free_of hbq 0
          have y1 := free_of hbq 1
          have y2 := free_of hbq 2
          have y3 := free_of hbq 3
          have y4 := free_of hbq 4
          have y5 := free_of hbq 5
          have y6 := free_of hbq 6
          simp only [List.getElem?_toArray, List.getElem?_cons_zero, List.getElem?_cons_succ] at z0 z1 z2 z3 z4 z5 z6
          have d0 := cell_of hbp 0
          have d1 := cell_of hbp 1
          have f0 := free_of hbp 0
          have f1 := free_of hbp 1
          simp only [List.getElem?_toArray, List.getElem?_cons_zero, List.getElem?_cons_succ] at d0 d1
          clear hbq hbp hu8
          go_wp2_with fail
          have hb7 := HF.out.2.1
          have hb2 := HF.out.2.2
          have q0 := cell_of hb7 0
          have q1 := cell_of hb7 1
          have q2 := cell_of hb7 2
          have q3 := cell_of hb7 3
          have q4 := cell_of hb7 4
          have q5 := cell_of hb7 5
          have q6 := cell_of hb7 6
          have p0 := cell_of hb2 0
          have p1 := cell_of hb2 1
          simp only [List.getElem?_toArray, List.getElem?_cons_zero, List.getElem?_cons_succ] at q0 q1 q2 q3 q4 q5 q6 p0 p1
          exact bodyPost_ret (v := .tuple #[.agg #[.slice g1 g2 g3, .int .i64 oa, .slice na1 na2 na3, .int .i64 sa, .int .i64 ma, .int .i64 qa, .slice la1 la2 la3], .agg #[.int .i64 0, .int .i64 0], .int .i64 0]) (by simp [results, Tryd.results50, go_sem, q0, q1, q2, q3, q4, q5, q6, p0, p1]) rfl HF.out.1
        · have k3 : ((greatF q.body : Int) != 0) = true := by rw [bne, show ((greatF q.body : Int) == 0) = false by rw [beq_eq_false_iff_ne]; omega]; rfl
          have HR : Hid (readF qp x = ⟨.zero, 0, 0, greatF q.body⟩) := Lib.hid (by rw [HS1.out, if_pos h2, if_neg h3])
          clear h2 h3
          go_enter Tryd.func50, Tryd.ntmps50
          go_wp2_with fail
          refine HC.out.mono ?_
          rintro e w2 ⟨tvv, rfl, hTv, hu2⟩
          obtain ⟨ta, tcap, rfl⟩ := hTv.len
          have HTV := Lib.hid hTv
          have HU2 := Lib.hid hu2
          clear hTv hu2
          go_wp2_with fail
          obtain ⟨W4, p, hW4, hpp, hR4, hU4, hX4, hq4, hp4, hord⟩ : ∃ W4 p, W4 = (w2.alloc (.cells #[.int .i64 0, .int .i64 0] 24)).alloc (.cells #[.slice ta ts.length tcap, .int .i64 0, .int .i64 0, .int .i64 0] 118) ∧ p = w2.heap.size + 1 ∧ RdAt W4 p ts ⟨0, 0, 0⟩ ∧ Upto [] w W4 ∧ Cx W4 p ts ∧ W4.heap[w.heap.size]? = some (.cells #[.slice none 0 0, .int .i64 0, .slice none 0 0, .int .i64 0, .int .i64 0, .int .i64 0, .slice none 0 0] 67 (0, 0)) ∧ W4.heap[w.heap.size + 1]? = some (.cells #[.int .i64 0, .int .i64 0] 24 (0, 0)) ∧ (w.heap.size + 1 < p) := by
            have ub := ((Upto.refl [] w2).alloc (.cells #[.int .i64 0, .int .i64 0] 24)).alloc (.cells #[.slice ta ts.length tcap, .int .i64 0, .int .i64 0, .int .i64 0] 118)
            have hb2 := HU2.out.at HBP.out (by simp)
            have h2 := lt_of_heap hb2
            have h22 := World.block_lt_of_cell? w _ HS.out.c0
            have h23 := HU0.out.size
            refine ⟨_, _, rfl, rfl, ⟨⟨_, new_at1 _ _ _, HTV.out.ext ub, ?_⟩, HLN.out.1, HFI.out⟩, (HU0.out.trans_ext HU2.out).trans_ext ub, ⟨HS.out.upto ((HU0.out.trans_ext HU2.out).trans_ext ub) (by simp), by simp at h22 h23; omega, HLN.out.2⟩, ub.at (HU2.out.at HBQ.out (by simp)) (by simp), ub.at hb2 (by simp), by omega⟩
            intro g o n c e
            rcases HTV.out.at with ⟨h0, _⟩ | ⟨g', o', c', e', hat⟩
            · have := HLN.out.1; rw [h0] at this; simp at this
            · rw [e'] at e
              simp at e
              obtain ⟨⟨rfl, rfl⟩, -, -⟩ := e
              obtain ⟨tt, ht⟩ : ∃ tt, ts[0]? = some tt := ⟨_, List.getElem?_eq_getElem HLN.out.1⟩
              have := World.block_lt_of_cell? w2 _ (hat _ _ ht).1
              simp at this
              omega
          rw [← hW4, ← hpp]
          have HR4 := Lib.hid hR4
          have HU4 := Lib.hid hU4
          have HX4 := Lib.hid hX4
          have HQ4 := Lib.hid hq4
          have HP4 := Lib.hid hp4
          have HO := Lib.hid hord
          clear hW4 hpp hR4 hU4 hX4 hq4 hp4 hord
          refine (HBY.out W4 p HX4.out HR4.out).mono ?_
          rintro e w5 ⟨vv, rfl, hqn, hR5, hu5, ha5⟩
          obtain ⟨g1, g2, g3, oa, na1, na2, na3, sa, ma, qa, la1, la2, la3, rfl⟩ := hqn.seven
          have hua := (Upto.refl [] w5).alloc (.cells #[.slice g1 g2 g3, .int .i64 oa, .slice na1 na2 na3, .int .i64 sa, .int .i64 ma, .int .i64 qa, .slice la1 la2 la3] 67)
          have HQN := Lib.hid (hqn.keep (Keep.upto (S := []) hua (by simp)))
          have HR5 := Lib.hid (hR5.ext hua)
          have HU5 := Lib.hid (hu5.trans_ext hua)
          have HQ5 := Lib.hid ((hu5.trans_ext hua).at HQ4.out (by have := HO.out; simp; omega))
          have HP5 := Lib.hid ((hu5.trans_ext hua).at HP4.out (by have := HO.out; simp; omega))
          have HT5 : Hid ((w5.alloc (.cells #[.slice g1 g2 g3, .int .i64 oa, .slice na1 na2 na3, .int .i64 sa, .int .i64 ma, .int .i64 qa, .slice la1 la2 la3] 67)).heap[w5.heap.size]? = some (.cells #[.slice g1 g2 g3, .int .i64 oa, .slice na1 na2 na3, .int .i64 sa, .int .i64 ma, .int .i64 qa, .slice la1 la2 la3] 67 (0, 0))) := Lib.hid (new_at _ _)
          have HZ5 := Lib.hid (And.intro (Nat.lt_of_lt_of_le HR4.out.lt hu5.size) (And.intro hu5.size HR4.out.lt))
          have HN := Lib.hid (next_calls _ p ts s' HR5.out)
          clear hqn hR5 hu5 ha5 hua
          go_wp2_with fail
          refine HN.out.mono ?_
          rintro e w6 ⟨rfl, hu6⟩
          rw [HTK.out]
          unfold tkA
          have HR6 := Lib.hid (HR5.out.ext hu6)
          have HUA6 := Lib.hid hu6
          clear hu6 HN
          go_wp2_with fail
          refine (wrong_calls w6 p 3 ts s' HR6.out).mono ?_
          rintro e w7 ⟨rfl, hR7, hu7⟩
          rw [← HSE.out] at hR7
          have HR7 := Lib.hid hR7
          have HUX := Lib.hid ((HUA6.out.mono (S' := [p]) (by simp)).trans_same hu7)
          clear hR7 hu7
          have HU7 := Lib.hid (HU5.out.trans_same HUX.out)
          have HQ7 := Lib.hid (HUX.out.at HQ5.out (by have := HO.out; simp; omega))
          have HP7 := Lib.hid (HUX.out.at HP5.out (by have := HO.out; simp; omega))
          have HT7 := Lib.hid (HUX.out.at HT5.out (by have := HZ5.out; simp; omega))
          have HQN7 : Hid (QnV w7 (New W4) q (.agg #[.slice g1 g2 g3, .int .i64 oa, .slice na1 na2 na3, .int .i64 sa, .int .i64 ma, .int .i64 qa, .slice la1 la2 la3])) := Lib.hid (HQN.out.keep (Keep.upto HUX.out (fun b hb _ => by have := HZ5.out; unfold New at hb; simp; omega)))
          have HUW : Hid (Upto [] w w7) := Lib.hid (HU4.out.trans HU7.out (fun k hk => Or.inr (by simp at hk; have := HO.out; omega)))
          obtain ⟨⟨vr, hb7, -, -⟩, -, -⟩ := id HR7.out
          have b2 := cell_of hb7 2
          unfold rdC at b2
          simp only [List.getElem?_toArray, List.getElem?_cons_zero, List.getElem?_cons_succ] at b2
          clear hb7
          have ht7 := HT7.out
          have t0 := cell_of ht7 0
          have t1 := cell_of ht7 1
          have t2 := cell_of ht7 2
          have t3 := cell_of ht7 3
          have t4 := cell_of ht7 4
          have t5 := cell_of ht7 5
          have t6 := cell_of ht7 6
          have u0 := free_of ht7 0
          have u1 := free_of ht7 1
          have u2 := free_of ht7 2
          have u3 := free_of ht7 3
          have u4 := free_of ht7 4
          have u5 := free_of ht7 5
          have u6 := free_of ht7 6
          simp only [List.getElem?_toArray, List.getElem?_cons_zero, List.getElem?_cons_succ] at t0 t1 t2 t3 t4 t5 t6
          obtain ⟨vf, a0, a1, a2, a3, a4, a5, eqn, hfv, hnv⟩ := HQN7.out
          simp only [Value.agg.injEq, Array.mk.injEq, List.cons.injEq, and_true] at eqn
          obtain ⟨rfl, rfl, rfl, rfl, rfl, rfl, rfl⟩ := eqn
          have HG := Lib.hid (great_calls q.body _ w7 _ hnv HQS.out)
          clear ht7 hfv hnv
          go_wp2_with fail
          refine HG.out.mono ?_
          clear t0 t1 t2 t3 t4 t5 t6 u0 u1 u2 u3 u4 u5 u6
          rintro e w8 ⟨rfl, hu8⟩
          have hbq := hu8.at HQ7.out (by simp)
          have hbp := hu8.at HP7.out (by simp)
          have HF := Lib.hid (prpost_fin (q := .zero) (r := readF qp x) (P := fun _ => False) (li := 0) (ci := 0) (ei := greatF q.body) (HUW.out.trans_ext hu8) (Nat.le_refl _) (by omega : w.heap.size ≤ w.heap.size + 1) (by omega) (QnV.zero _ _) (fun b hb => hb.elim) hbq hbp rfl rfl (by rw [HR.out]; exact ⟨rfl, rfl, rfl, rfl⟩))
          have z0 := cell_of hbq 0
          have z1 := cell_of hbq 1
          have z2 := cell_of hbq 2
          have z3 := cell_of hbq 3
          have z4 := cell_of hbq 4
          have z5 := cell_of hbq 5
          have z6 := cell_of hbq 6
          have y0 := free_of hbq 0
          have y1 := free_of hbq 1
          have y2 := free_of hbq 2
          have y3 := free_of hbq 3
          have y4 := free_of hbq 4
          have y5 := free_of hbq 5
          have y6 := free_of hbq 6
          simp only [List.getElem?_toArray, List.getElem?_cons_zero, List.getElem?_cons_succ] at z0 z1 z2 z3 z4 z5 z6
          have d0 := cell_of hbp 0
          have d1 := cell_of hbp 1
          have f0 := free_of hbp 0
          have f1 := free_of hbp 1
          simp only [List.getElem?_toArray, List.getElem?_cons_zero, List.getElem?_cons_succ] at d0 d1
          clear hbq hbp hu8
          go_wp2_with fail
          have hb7 := HF.out.2.1
          have hb2 := HF.out.2.2
          have q0 := cell_of hb7 0
          have q1 := cell_of hb7 1
          have q2 := cell_of hb7 2
          have q3 := cell_of hb7 3
          have q4 := cell_of hb7 4
          have q5 := cell_of hb7 5
          have q6 := cell_of hb7 6
          have p0 := cell_of hb2 0
          have p1 := cell_of hb2 1
          simp only [List.getElem?_toArray, List.getElem?_cons_zero, List.getElem?_cons_succ] at q0 q1 q2 q3 q4 q5 q6 p0 p1
          exact bodyPost_ret (v := .tuple #[.agg #[.slice none 0 0, .int .i64 0, .slice none 0 0, .int .i64 0, .int .i64 0, .int .i64 0, .slice none 0 0], .agg #[.int .i64 0, .int .i64 0], .int .i64 (greatF q.body)]) (by simp [results, Tryd.results50, go_sem, q0, q1, q2, q3, q4, q5, q6, p0, p1]) rfl HF.out.1
      · have k2 : ((s1.er : Int) != 0) = true := by rw [bne, show ((s1.er : Int) == 0) = false by rw [beq_eq_false_iff_ne]; omega]; rfl
        have HR : Hid (readF qp x = ⟨.zero, tl, tc, s1.er⟩) := Lib.hid (by rw [HS1.out, if_neg h2])
        clear h2
        go_enter Tryd.func50, Tryd.ntmps50
        go_wp2_with fail
        refine HC.out.mono ?_
        rintro e w2 ⟨tvv, rfl, hTv, hu2⟩
        obtain ⟨ta, tcap, rfl⟩ := hTv.len
        have HTV := Lib.hid hTv
        have HU2 := Lib.hid hu2
        clear hTv hu2
        go_wp2_with fail
        obtain ⟨W4, p, hW4, hpp, hR4, hU4, hX4, hq4, hp4, hord⟩ : ∃ W4 p, W4 = (w2.alloc (.cells #[.int .i64 0, .int .i64 0] 24)).alloc (.cells #[.slice ta ts.length tcap, .int .i64 0, .int .i64 0, .int .i64 0] 118) ∧ p = w2.heap.size + 1 ∧ RdAt W4 p ts ⟨0, 0, 0⟩ ∧ Upto [] w W4 ∧ Cx W4 p ts ∧ W4.heap[w.heap.size]? = some (.cells #[.slice none 0 0, .int .i64 0, .slice none 0 0, .int .i64 0, .int .i64 0, .int .i64 0, .slice none 0 0] 67 (0, 0)) ∧ W4.heap[w.heap.size + 1]? = some (.cells #[.int .i64 0, .int .i64 0] 24 (0, 0)) ∧ (w.heap.size + 1 < p) := by
          have ub := ((Upto.refl [] w2).alloc (.cells #[.int .i64 0, .int .i64 0] 24)).alloc (.cells #[.slice ta ts.length tcap, .int .i64 0, .int .i64 0, .int .i64 0] 118)
          have hb2 := HU2.out.at HBP.out (by simp)
          have h2 := lt_of_heap hb2
          have h22 := World.block_lt_of_cell? w _ HS.out.c0
          have h23 := HU0.out.size
          refine ⟨_, _, rfl, rfl, ⟨⟨_, new_at1 _ _ _, HTV.out.ext ub, ?_⟩, HLN.out.1, HFI.out⟩, (HU0.out.trans_ext HU2.out).trans_ext ub, ⟨HS.out.upto ((HU0.out.trans_ext HU2.out).trans_ext ub) (by simp), by simp at h22 h23; omega, HLN.out.2⟩, ub.at (HU2.out.at HBQ.out (by simp)) (by simp), ub.at hb2 (by simp), by omega⟩
          intro g o n c e
          rcases HTV.out.at with ⟨h0, _⟩ | ⟨g', o', c', e', hat⟩
          · have := HLN.out.1; rw [h0] at this; simp at this
          · rw [e'] at e
            simp at e
            obtain ⟨⟨rfl, rfl⟩, -, -⟩ := e
            obtain ⟨tt, ht⟩ : ∃ tt, ts[0]? = some tt := ⟨_, List.getElem?_eq_getElem HLN.out.1⟩
            have := World.block_lt_of_cell? w2 _ (hat _ _ ht).1
            simp at this
            omega
        rw [← hW4, ← hpp]
        have HR4 := Lib.hid hR4
        have HU4 := Lib.hid hU4
        have HX4 := Lib.hid hX4
        have HQ4 := Lib.hid hq4
        have HP4 := Lib.hid hp4
        have HO := Lib.hid hord
        clear hW4 hpp hR4 hU4 hX4 hq4 hp4 hord
        refine (HBY.out W4 p HX4.out HR4.out).mono ?_
        rintro e w5 ⟨vv, rfl, hqn, hR5, hu5, ha5⟩
        obtain ⟨g1, g2, g3, oa, na1, na2, na3, sa, ma, qa, la1, la2, la3, rfl⟩ := hqn.seven
        have hua := (Upto.refl [] w5).alloc (.cells #[.slice g1 g2 g3, .int .i64 oa, .slice na1 na2 na3, .int .i64 sa, .int .i64 ma, .int .i64 qa, .slice la1 la2 la3] 67)
        have HQN := Lib.hid (hqn.keep (Keep.upto (S := []) hua (by simp)))
        have HR5 := Lib.hid (hR5.ext hua)
        have HU5 := Lib.hid (hu5.trans_ext hua)
        have HQ5 := Lib.hid ((hu5.trans_ext hua).at HQ4.out (by have := HO.out; simp; omega))
        have HP5 := Lib.hid ((hu5.trans_ext hua).at HP4.out (by have := HO.out; simp; omega))
        have HT5 : Hid ((w5.alloc (.cells #[.slice g1 g2 g3, .int .i64 oa, .slice na1 na2 na3, .int .i64 sa, .int .i64 ma, .int .i64 qa, .slice la1 la2 la3] 67)).heap[w5.heap.size]? = some (.cells #[.slice g1 g2 g3, .int .i64 oa, .slice na1 na2 na3, .int .i64 sa, .int .i64 ma, .int .i64 qa, .slice la1 la2 la3] 67 (0, 0))) := Lib.hid (new_at _ _)
        have HZ5 := Lib.hid (And.intro (Nat.lt_of_lt_of_le HR4.out.lt hu5.size) (And.intro hu5.size HR4.out.lt))
        have HN := Lib.hid (next_calls _ p ts s' HR5.out)
        clear hqn hR5 hu5 ha5 hua
        go_wp2_with fail
        refine HN.out.mono ?_
        rintro e w6 ⟨rfl, hu6⟩
        rw [HTK.out]
        unfold tkA
        have HR6 := Lib.hid (HR5.out.ext hu6)
        have HUA6 := Lib.hid hu6
        clear hu6 HN
        go_wp2_with fail
        refine (wrong_calls w6 p 3 ts s' HR6.out).mono ?_
        rintro e w7 ⟨rfl, hR7, hu7⟩
        rw [← HSE.out] at hR7
        have HR7 := Lib.hid hR7
        have HUX := Lib.hid ((HUA6.out.mono (S' := [p]) (by simp)).trans_same hu7)
        clear hR7 hu7
        have HU7 := Lib.hid (HU5.out.trans_same HUX.out)
        have HQ7 := Lib.hid (HUX.out.at HQ5.out (by have := HO.out; simp; omega))
        have HP7 := Lib.hid (HUX.out.at HP5.out (by have := HO.out; simp; omega))
        have HT7 := Lib.hid (HUX.out.at HT5.out (by have := HZ5.out; simp; omega))
        have HQN7 : Hid (QnV w7 (New W4) q (.agg #[.slice g1 g2 g3, .int .i64 oa, .slice na1 na2 na3, .int .i64 sa, .int .i64 ma, .int .i64 qa, .slice la1 la2 la3])) := Lib.hid (HQN.out.keep (Keep.upto HUX.out (fun b hb _ => by have := HZ5.out; unfold New at hb; simp; omega)))
        have HUW : Hid (Upto [] w w7) := Lib.hid (HU4.out.trans HU7.out (fun k hk => Or.inr (by simp at hk; have := HO.out; omega)))
        obtain ⟨⟨vr, hb7, -, -⟩, -, -⟩ := id HR7.out
        have b2 := cell_of hb7 2
        unfold rdC at b2
        simp only [List.getElem?_toArray, List.getElem?_cons_zero, List.getElem?_cons_succ] at b2
        have HB7 := Lib.hid hb7
        have b3 := cell_of (((Upto.refl [] w7).drew).at hb7 (by simp)) 2
        unfold rdC at b3
        simp only [List.getElem?_toArray, List.getElem?_cons_zero, List.getElem?_cons_succ] at b3
        have HN7 := Lib.hid (next_calls w7.drew p ts s1 (HR7.out.ext ((Upto.refl [] w7).drew)))
        clear hb7
        go_wp2_with fail
        go_region_with (
          refine HN7.out.mono ?_
          rintro e w8 ⟨rfl, hu8⟩
          rw [HT1.out]
          unfold tkA
          have hu8b := ((Upto.refl [] w7).drew).trans_ext hu8
          have hbq := hu8b.at HQ7.out (by simp)
          have hbp := hu8b.at HP7.out (by simp)
          have b4 := cell_of (hu8b.at HB7.out (by simp)) 2
          unfold rdC at b4
          simp only [List.getElem?_toArray, List.getElem?_cons_zero, List.getElem?_cons_succ] at b4
          have z0 := cell_of hbq 0
          have z1 := cell_of hbq 1
          have z2 := cell_of hbq 2
          have z3 := cell_of hbq 3
          have z4 := cell_of hbq 4
          have z5 := cell_of hbq 5
          have z6 := cell_of hbq 6
          have y0 := free_of hbq 0
          have y1 := free_of hbq 1
          have y2 := free_of hbq 2
          have y3 := free_of hbq 3
          have y4 := free_of hbq 4
          have y5 := free_of hbq 5
          have y6 := free_of hbq 6
          simp only [List.getElem?_toArray, List.getElem?_cons_zero, List.getElem?_cons_succ] at z0 z1 z2 z3 z4 z5 z6
          have d0 := cell_of hbp 0
          have d1 := cell_of hbp 1
          have f0 := free_of hbp 0
          have f1 := free_of hbp 1
          simp only [List.getElem?_toArray, List.getElem?_cons_zero, List.getElem?_cons_succ] at d0 d1
          have n1 : w.heap.size ≠ p := by have := HO.out; omega
          have n2 : w.heap.size + 1 ≠ p := by have := HO.out; omega
          have n3 : p ≠ w.heap.size := n1.symm
          have n4 : p ≠ w.heap.size + 1 := n2.symm
          have HF := Lib.hid (prpost_fin (q := .zero) (r := readF qp x) (P := fun _ => False) (li := tl) (ci := tc) (ei := s1.er) (HUW.out.trans_ext hu8b) (Nat.le_refl _) (by omega : w.heap.size ≤ w.heap.size + 1) (by omega) (QnV.zero _ _) (fun b hb => hb.elim) hbq hbp rfl rfl (by rw [HR.out]; exact ⟨rfl, rfl, rfl, rfl⟩))
          clear hbq hbp hu8 hu8b)
        all_goals (
          go_wp2_with fail
          have hb7 := HF.out.2.1
          have hb2 := HF.out.2.2
          have q0 := cell_of hb7 0
          have q1 := cell_of hb7 1
          have q2 := cell_of hb7 2
          have q3 := cell_of hb7 3
          have q4 := cell_of hb7 4
          have q5 := cell_of hb7 5
          have q6 := cell_of hb7 6
          have p0 := cell_of hb2 0
          have p1 := cell_of hb2 1
          simp only [List.getElem?_toArray, List.getElem?_cons_zero, List.getElem?_cons_succ] at q0 q1 q2 q3 q4 q5 q6 p0 p1
          exact bodyPost_ret (v := .tuple #[.agg #[.slice none 0 0, .int .i64 0, .slice none 0 0, .int .i64 0, .int .i64 0, .int .i64 0, .slice none 0 0], .agg #[.int .i64 tl, .int .i64 tc], .int .i64 s1.er]) (by simp [results, Tryd.results50, go_sem, q0, q1, q2, q3, q4, q5, q6, p0, p1]) rfl HF.out.1)
end Go.Proofs.YtkhbpebpljdifaaDoor

/- Plain law of FormulaBlanks: two texts whose tokens are alike have the same answer, at the same token. -/
namespace Go.Proofs.YtkhbpebpljdifaaDoor
open Go.PL

theorem endF_alike {ts us : List Tok} (h : Alike ts us) (q : Qn) (s : PS) (hs : s.nx < ts.length) (hl : ∀ t ∈ ts, 1 ≤ t.line) (hp : ts.Pairwise fun a b => Ahead a.line a.col b.line b.col) :
    (endF ts q s).q = (endF us q s).q ∧ (endF ts q s).er = (endF us q s).er ∧ ((endF ts q s).q = q ∨ (endF ts q s).q = .zero) ∧
    (∀ (i : Nat) (t u : Tok), ts[i]? = some t → us[i]? = some u → t.line = (endF ts q s).line → t.col = (endF ts q s).col → u.line = (endF us q s).line ∧ u.col = (endF us q s).col) ∧
    ((∀ (i : Nat) (t : Tok), ts[i]? = some t → ¬ (t.line = (endF ts q s).line ∧ t.col = (endF ts q s).col)) → (endF ts q s).line = 0 ∧ (endF ts q s).col = 0 ∧ (endF us q s).line = 0 ∧ (endF us q s).col = 0) := by
  have hk := al_kind h s
  have hlen := al_len h
  unfold endF
  rw [← hk]
  generalize hS : (if (tkAt ts s).kind = 0 then s else wrongF 3 s) = s1
  have hn : s1.nx = s.nx := by
    subst hS
    split
    · rfl
    · exact wrongF_nx _ _
  simp only
  have hzero : ∀ (i : Nat) (t : Tok), ts[i]? = some t → t.line ≠ 0 := by
    intro i t ht
    have := hl t (List.mem_of_getElem? ht)
    omega
  split
  · split
    · refine ⟨rfl, rfl, Or.inl rfl, ?_, fun _ => ⟨rfl, rfl, rfl, rfl⟩⟩
      intro i t u ht hu hli
      exact absurd hli (hzero i t ht)
    · refine ⟨rfl, rfl, Or.inr rfl, ?_, fun _ => ⟨rfl, rfl, rfl, rfl⟩⟩
      intro i t u ht hu hli
      exact absurd hli (hzero i t ht)
  · have h1 : ts[s1.nx]? = some (tkAt ts s1) := tk_some (by omega)
    have h2 : us[s1.nx]? = some (tkAt us s1) := tk_some (by omega)
    refine ⟨rfl, rfl, Or.inr rfl, ?_, fun hno => absurd ⟨rfl, rfl⟩ (hno _ _ h1)⟩
    intro i t u ht hu hli hco
    have := places_ne hp ht h1 hli hco
    subst this
    rw [h2] at hu
    cases hu
    exact ⟨rfl, rfl⟩
end Go.Proofs.YtkhbpebpljdifaaDoor

/- What FormulaBlanks compares: the answers at a text and at the text with other blanks. -/
namespace Go.Proofs.YtkhbpebpljdifaaDoor
open Go.RowKit Go.PL Go.Maps

/-- the cells of bytes -/
def u8C (bl : List Nat) : List Value := bl.map fun (k : Nat) => Value.int .u8 (k : Int)
/-- two answers with their tokens -/
structure BlOk (ts us : List Tok) (r1 r2 : PR) : Prop where
  len : us.length = ts.length
  q : r2.q = r1.q
  er : r2.er = r1.er
  fr : r1.q.free.length ≤ 10000000
  sz : sizeF r1.q.body ≤ 10000000
  big : bigN r1.q.body
  hit : ∀ (i : Nat) (t u : Tok), ts[i]? = some t → us[i]? = some u → t.line = r1.line → t.col = r1.col → u.line = r2.line ∧ u.col = r2.col
  miss : (∀ (i : Nat) (t : Tok), ts[i]? = some t → ¬ (t.line = r1.line ∧ t.col = r1.col)) → r1.line = 0 ∧ r1.col = 0 ∧ r2.line = 0 ∧ r2.col = 0
theorem bl_ok {s t : List UInt8} {ts us : List Tok} (hs : s.length ≤ 1000) (h : lexT s = .ok ts) (hu : lexT t = .ok us) (ha : Alike ts us) : BlOk ts us (readF queryP s) (readF queryP t) := by
  obtain ⟨hf, h0, hl, -, -, hline, hp⟩ := lexT_fin h
  obtain ⟨q, s', hq, hadv, hsz, hfr⟩ := queryP_ok hf h0
  have hq2 : queryP us = some (q, s') := by rw [← al_query ha]; exact hq
  have e1 : readF queryP s = endF ts q s' := by unfold readF; rw [h]; simp only [hq]
  have e2 : readF queryP t = endF us q s' := by unfold readF; rw [hu]; simp only [hq2]
  rw [e1, e2]
  obtain ⟨g1, g2, g3, g4, g5⟩ := endF_alike ha q s' hadv.lt hline hp
  have hb := big_query (by omega) hq
  refine ⟨(al_len ha).symm, g1.symm, g2.symm, ?_, ?_, ?_, g4, g5⟩
  · rcases g3 with g3 | g3 <;> rw [g3]
    · omega
    · simp [Qn.zero]
  · rcases g3 with g3 | g3 <;> rw [g3]
    · omega
    · have := sizeF_zero
      simp only [Qn.zero]
      omega
  · rcases g3 with g3 | g3 <;> rw [g3]
    · exact hb
    · exact big_zero
end Go.Proofs.YtkhbpebpljdifaaDoor
