/- Texts merged, in build order: Fm20, Fm21, Fm22, Fm23, Fm24, Fm28, Fm25, Fm29, Fm31, FmA, FmP, FmP2. -/
import Derived.Test.YtkhbpebpljdifaaGreatDoorMFoc
namespace Go.Proofs.YtkhbpebpljdifaaGreatDoor
open Go.RowKit Go.PL Go.Maps Go.Shelf
attribute [local go_sem] Oper.semAt_some
structure ImB (w : World) (p B Bn Bs : Nat) (l : List Tok) (t : PS) (ms : List Nd) (c : Nat → Nat → Value) (sl : Value) (ok : Prop) (k : Nat) (W : World) : Prop where
  rd : RdAt W p l t
  up : Upto [p] w W
  z : W.heap[B]? = some (.cells #[.int .i64 0, .slice none 0 0, .int .i64 0, .int .i64 0, .int .i64 0, .slice none 0 0] 34 (0, 0))
  bs : W.heap[Bs]? = some (.cells #[sl] 32 (0, 0))
  nd : ∀ i m, ms[i]? = some m → NdV W (Lo w B Bn) m (.agg #[c i 0, c i 1, c i 2, c i 3, c i 4, c i 5])
  acc : ∃ (oa : Int) (na1 : Option Addr) (na2 na3 : Nat) (sa ma qa : Int) (la1 : Option Addr) (la2 la3 : Nat), W.heap[Bn]? = some (.cells #[.int .i64 oa, .slice na1 na2 na3, .int .i64 sa, .int .i64 ma, .int .i64 qa, .slice la1 la2 la3] 34 (0, 0)) ∧ (ok → NdV W (Lo w B Bn) (implFold (ms.drop k)) (.agg #[.int .i64 oa, .slice na1 na2 na3, .int .i64 sa, .int .i64 ma, .int .i64 qa, .slice la1 la2 la3]))
theorem keep_grown {W W' : World} {row : Option Nat} (hg : W.grownBy W' row) (hr : ∀ r, row = some r → ∃ o : Obj, W.heap[r]? = some o ∧ o.isCells = false) (P : Nat → Prop) : Keep W W' P P :=
  ⟨hg.size, fun b hb hl => ⟨hb, hg.block b hl.lt (fun e => by
    obtain ⟨cs, t, z, h⟩ := hl
    obtain ⟨o, ho, hc⟩ := hr b (by first | exact e | exact e.symm)
    rw [h] at ho
    cases ho
    cases hc)⟩⟩
theorem ImB.grown {w : World} {p B Bn Bs : Nat} {l : List Tok} {t : PS} {ms : List Nd} {c : Nat → Nat → Value} {sl : Value} {ok : Prop} {k b0 : Nat} {W W' : World} {row : Option Nat} (h : ImB w p B Bn Bs l t ms c sl ok k W) (hb : p < b0 ∧ w.heap.size ≤ b0) (hg : W.grownBy W' row)
    (hr : ∀ r, row = some r → b0 ≤ r ∧ ∃ o : Obj, W.heap[r]? = some o ∧ o.isCells = false) : ImB w p B Bn Bs l t ms c sl ok k W' := by
  have hr2 := fun r e => (hr r e).2
  have hu : Upto row.toList W W' := (Upto.refl _ W).grown hg (fun k e => Or.inl (by rw [e]; simp))
  have kc := fun (b : Nat) (cs : Array Value) (T : TypeId) (z : Nat × Nat) (h : W.heap[b]? = some (.cells cs T z)) => (grownBy_keeps_cells hg hr2 h rfl).trans h
  refine ⟨h.rd.above hu (fun k hk => ?_), h.up.grown hg (fun k e => Or.inr ?_), kc _ _ _ _ h.z, kc _ _ _ _ h.bs, fun i m hi => NdV.keep (keep_grown hg hr2 _) _ _ (h.nd i m hi), ?_⟩
  · have := (hr k (Option.mem_toList.1 hk)).1; omega
  · have := (hr k e).1; omega
  · obtain ⟨oa, na1, na2, na3, sa, ma, qa, la1, la2, la3, h1, h2⟩ := h.acc
    exact ⟨oa, na1, na2, na3, sa, ma, qa, la1, la2, la3, kc _ _ _ _ h1, fun hk => NdV.keep (keep_grown hg hr2 _) _ _ (h2 hk)⟩
theorem ImB.ext {w : World} {p B Bn Bs : Nat} {l : List Tok} {t : PS} {ms : List Nd} {c : Nat → Nat → Value} {sl : Value} {ok : Prop} {k : Nat} {W W' : World} (h : ImB w p B Bn Bs l t ms c sl ok k W) (hu : Upto [] W W') : ImB w p B Bn Bs l t ms c sl ok k W' := by
  obtain ⟨oa, na1, na2, na3, sa, ma, qa, la1, la2, la3, h1, h2⟩ := h.acc
  exact ⟨h.rd.ext hu, h.up.trans_ext hu, hu.at h.z (by simp), hu.at h.bs (by simp), fun i m hi => (h.nd i m hi).ext hu, oa, na1, na2, na3, sa, ma, qa, la1, la2, la3, hu.at h1 (by simp), fun hk => (h2 hk).ext hu⟩
theorem ImB.at {w : World} {p B Bn Bs : Nat} {l : List Tok} {t : PS} {ms : List Nd} {c : Nat → Nat → Value} {sl : Value} {ok : Prop} {k k' : Nat} {W : World} (h : ImB w p B Bn Bs l t ms c sl ok k W) (hk : ok → k = k') : ImB w p B Bn Bs l t ms c sl ok k' W := by
  obtain ⟨oa, na1, na2, na3, sa, ma, qa, la1, la2, la3, h1, h2⟩ := h.acc
  exact ⟨h.rd, h.up, h.z, h.bs, h.nd, oa, na1, na2, na3, sa, ma, qa, la1, la2, la3, h1, fun ho => by rw [← hk ho]; exact h2 ho⟩
theorem implFold_step (ms : List Nd) (q : Nat) (m : Nd) (h : ms[q]? = some m) (hl : q + 1 < ms.length) : implFold (ms.drop q) = .mk 14 [] 0 0 0 [m, implFold (ms.drop (q + 1))] := by
  obtain ⟨h1, rfl⟩ := List.getElem?_eq_some_iff.1 h
  rw [List.drop_eq_getElem_cons h1]
  cases hd : ms.drop (q + 1) with
  | nil => have := congrArg List.length hd; simp at this; omega
  | cons y ys => rfl
theorem ImB.next {w : World} {p B Bn Bs : Nat} {l : List Tok} {t : PS} {ms : List Nd} {c : Nat → Nat → Value} {sl : Value} {ok ok2 : Prop} {k q : Nat} {m : Nd} {W : World} (h : ImB w p B Bn Bs l t ms c sl ok k W) (hB : w.heap.size = B) (hp : p < B) (hBn : B < Bn) (hsn : Bs ≠ Bn)
    (hq : ms[q]? = some m) (hok : ok2 → ok ∧ k = q + 1 ∧ q + 1 < ms.length) {x0 x1 x2 x3 x4 x5 : Value} (hx : x0 = c q 0 ∧ x1 = c q 1 ∧ x2 = c q 2 ∧ x3 = c q 3 ∧ x4 = c q 4 ∧ x5 = c q 5) {oa : Int} {na1 : Option Addr} {na2 na3 : Nat} {sa ma qa : Int} {la1 : Option Addr} {la2 la3 : Nat} (hn : W.heap[Bn]? = some (.cells #[.int .i64 oa, .slice na1 na2 na3, .int .i64 sa, .int .i64 ma, .int .i64 qa, .slice la1 la2 la3] 34 (0, 0))) (ha : ok → NdV W (Lo w B Bn) (implFold (ms.drop k)) (.agg #[.int .i64 oa, .slice na1 na2 na3, .int .i64 sa, .int .i64 ma, .int .i64 qa, .slice la1 la2 la3])) :
    ImB w p B Bn Bs l t ms c sl ok2 q ((((((((W.alloc (.cells #[x0, x1, x2, x3, x4, x5, .int .i64 oa, .slice na1 na2 na3, .int .i64 sa, .int .i64 ma, .int .i64 qa, .slice la1 la2 la3] 34)).setCell ⟨Bn, 0, none⟩ (.int .i64 14)).setCell ⟨Bn, 1, none⟩ (.slice none 0 0)).setCell ⟨Bn, 2, none⟩ (.int .i64 0)).setCell ⟨Bn, 3, none⟩ (.int .i64 0)).setCell ⟨Bn, 4, none⟩ (.int .i64 0)).setCell ⟨Bn, 5, none⟩ (.slice (some ⟨W.heap.size, 0, none⟩) 2 2))) ∧
    Upto [Bn] W ((((((((W.alloc (.cells #[x0, x1, x2, x3, x4, x5, .int .i64 oa, .slice na1 na2 na3, .int .i64 sa, .int .i64 ma, .int .i64 qa, .slice la1 la2 la3] 34)).setCell ⟨Bn, 0, none⟩ (.int .i64 14)).setCell ⟨Bn, 1, none⟩ (.slice none 0 0)).setCell ⟨Bn, 2, none⟩ (.int .i64 0)).setCell ⟨Bn, 3, none⟩ (.int .i64 0)).setCell ⟨Bn, 4, none⟩ (.int .i64 0)).setCell ⟨Bn, 5, none⟩ (.slice (some ⟨W.heap.size, 0, none⟩) 2 2))) := by
  obtain ⟨rfl, rfl, rfl, rfl, rfl, rfl⟩ := hx
  have hua : Upto [] W (W.alloc (.cells #[c q 0, c q 1, c q 2, c q 3, c q 4, c q 5, .int .i64 oa, .slice na1 na2 na3, .int .i64 sa, .int .i64 ma, .int .i64 qa, .slice la1 la2 la3] 34)) := (Upto.refl [] W).alloc _
  have hlt := lt_of_heap hn
  have hnew := new_at W (.cells #[c q 0, c q 1, c q 2, c q 3, c q 4, c q 5, .int .i64 oa, .slice na1 na2 na3, .int .i64 sa, .int .i64 ma, .int .i64 qa, .slice la1 la2 la3] 34)
  have hus := h.up.size
  have hg : Lo w B Bn W.heap.size := ⟨hus, by omega, by omega⟩
  have hnA := hua.at hn (by simp)
  have hst := nd_self (W.alloc (.cells #[c q 0, c q 1, c q 2, c q 3, c q 4, c q 5, .int .i64 oa, .slice na1 na2 na3, .int .i64 sa, .int .i64 ma, .int .i64 qa, .slice la1 la2 la3] 34)) Bn (.int .i64 14) (.slice none 0 0) (.int .i64 0) (.int .i64 0) (.int .i64 0) (.slice (some ⟨W.heap.size, 0, none⟩) 2 2)
  have hbn := nd_store hnA (.int .i64 14) (.slice none 0 0) (.int .i64 0) (.int .i64 0) (.int .i64 0) (.slice (some ⟨W.heap.size, 0, none⟩) 2 2)
  refine ⟨⟨(h.rd.ext hua).above hst (fun k hk => by simp at hk; omega), nd_up (h.up.trans_ext hua) (Or.inr (by omega)) .., hst.at (hua.at h.z (by simp)) (by simp; omega), hst.at (hua.at h.bs (by simp)) (by simpa using hsn), fun i x hi => ((h.nd i x hi).ext hua).upto hst (fun b hb _ => by simp; exact hb.2.2), 14, none, 0, 0, 0, 0, 0, _, 2, 2, hbn, fun hk2 => ?_⟩, (hua.mono (by simp)).trans_same hst⟩
  obtain ⟨hk, rfl, hl⟩ := hok hk2
  rw [implFold_step ms q m hq hl]
  exact (NdV.two (op := 14) (so := 0) (names := []) SlP.nil ((h.nd q m hq).ext hua) ((ha hk).ext hua) hg hnew).upto hst (fun b hb _ => by simp; exact hb.2.2)
theorem RdPost.put {w W W' : World} {p D : Nat} {l : List Tok} {s s' : PS} {n : Nd} {e : Ending} (h : RdPost w p l s n s' e W) (hu : Upto [D] W W') (hD : p < D ∧ w.heap.size ≤ D) (hc : ¬ IsC W D) : RdPost w p l s n s' e W' := by
  obtain ⟨v, he, hn, hR, hup, ha⟩ := h
  exact ⟨v, he, hn.upto hu (fun b _ hl => by simp; rintro rfl; exact hc hl), hR.above hu (fun k hk => by simp at hk; omega), hup.trans hu (fun k hk => Or.inr (by simp at hk; omega)), ha⟩
theorem Down.snoc {r : Nat} {pre : List (Ix r)} {x : Ix r} (h : Down (pre ++ [x])) : Down pre ∧ x.1 + pre.length + 1 = r := by
  refine ⟨⟨by have := h.1; simp at this; omega, fun j y hy => h.2 j y ?_⟩, ?_⟩
  · rw [List.getElem?_append_left (List.getElem?_eq_some_iff.1 hy).1]; exact hy
  · exact h.2 pre.length x (by simp)
set_option maxRecDepth 100000 in
set_option maxHeartbeats 12800000 in
theorem implies_calls (w : World) (p : Nat) (l : List Tok) (s s' : PS) (n : Nd) (of : Rd) (hx : Cx w p l) (h : RdAt w p l s) (hd : s.dp ≤ 256) (hop : Rdr w p l 147 #[.pointer (some ⟨p, 0, none⟩)] of) (he : impliesP l of s = some (n, s')) :
    Calls Tryz.prog 92 #[.pointer (some ⟨p, 0, none⟩)] w (RdPost w p l s n s') := by
  have HpB : Hid (p < w.heap.size) := Lib.hid h.lt
  have hu0 : Upto [] w (w.alloc (.cells #[.int .i64 0, .slice none 0 0, .int .i64 0, .int .i64 0, .int .i64 0, .slice none 0 0] 34)) := (Upto.refl [] w).alloc _
  have HR0 := Lib.hid (h.ext hu0)
  have HX0 := Lib.hid (hx.ext hu0)
  have HU0 : Hid (Upto [p] w (w.alloc (.cells #[.int .i64 0, .slice none 0 0, .int .i64 0, .int .i64 0, .int .i64 0, .slice none 0 0] 34))) := Lib.hid (hu0.mono (by simp))
  have HNew : Hid ((w.alloc (.cells #[.int .i64 0, .slice none 0 0, .int .i64 0, .int .i64 0, .int .i64 0, .slice none 0 0] 34)).heap[w.heap.size]? = some (.cells #[.int .i64 0, .slice none 0 0, .int .i64 0, .int .i64 0, .int .i64 0, .slice none 0 0] 34 (0, 0))) := Lib.hid (new_at _ _)
  have hlen := hx.len
  have hin := h.inb
  have HF : Hid (Fin l) := Lib.hid h.fin
  have HOP := Lib.hid (hop.upto HU0.out)
  have HV : Hid (∃ m t a, orsP l of s = some (m, t) ∧ implLoop l (orsP l of) (l.length + 1) [m] t = some (a, s') ∧ n = implFold a) := Lib.hid (by
    unfold impliesP at he
    cases hq : orsP l of s with
    | none => rw [hq] at he; cases he
    | some r =>
      obtain ⟨m, t⟩ := r
      rw [hq] at he
      simp only [Option.bind_some] at he
      cases hz : implLoop l (orsP l of) (l.length + 1) [m] t with
      | none => rw [hz] at he; cases he
      | some r2 =>
        obtain ⟨a, t2⟩ := r2
        rw [hz] at he
        simp at he
        obtain ⟨rfl, rfl⟩ := he
        exact ⟨m, t, a, rfl, hz, rfl⟩)
  obtain ⟨m0, t0, a, hv1, hv2, rfl⟩ := HV.out
  have HO := Lib.hid (fun w1 (hu : Upto [p] w w1) s1 n1 s2 (hR : RdAt w1 p l s1) (hd1 : s1.dp ≤ 256) (he1 : orsP l of s1 = some (n1, s2)) => ors_calls w1 p l s1 s2 n1 of (hx.upto hu) hR hd1 (hop.upto hu) he1)
  have HV1 := Lib.hid hv1
  have HV2 := Lib.hid hv2
  clear hx h he hu0 hop HV hv1 hv2
  refine (callsIn_wide (n := 5)).1 ?_
  refine callsIn_of_wp_marks Tryz.func92 rfl trivial (wpIn_wide.2 ?_) rfl
  simp only [Tryz.ntmps92, List.size_toArray, List.length_cons, List.length_nil, Nat.reduceAdd, Nat.reduceSub, Array.replicate_succ, Array.replicate_zero, List.push_toArray, List.append_toArray, List.nil_append, List.cons_append]
  go_wp2_with fail
  refine (HO.out _ HU0.out s m0 t0 HR0.out hd HV1.out).mono ?_
  rintro e w2 ⟨vv, rfl, hn, hR2, hu2, ha⟩
  obtain ⟨oa, na1, na2, na3, sa, ma, qa, la1, la2, la3, rfl⟩ := hn.six
  have hua := (Upto.refl [] w2).alloc (.cells #[.int .i64 oa, .slice na1 na2 na3, .int .i64 sa, .int .i64 ma, .int .i64 qa, .slice la1 la2 la3] 34)
  have hgn : (w2.alloc (.cells #[.int .i64 oa, .slice na1 na2 na3, .int .i64 sa, .int .i64 ma, .int .i64 qa, .slice la1 la2 la3] 34)).heap[w2.heap.size]? = some (.cells #[.int .i64 oa, .slice na1 na2 na3, .int .i64 sa, .int .i64 ma, .int .i64 qa, .slice la1 la2 la3] 34 (0, 0)) := new_at _ _
  have HS2 : Hid (w.heap.size < w2.heap.size) := Lib.hid (Nat.lt_of_lt_of_le (lt_of_heap HNew.out) hu2.size)
  have HI0 : Hid (ImpI w p l of s s' a (.slice (some ⟨w2.heap.size, 0, none⟩) 1 1) (w2.alloc (.cells #[.int .i64 oa, .slice na1 na2 na3, .int .i64 sa, .int .i64 ma, .int .i64 qa, .slice la1 la2 la3] 34))) := Lib.hid ⟨_, _, _, _, HV2.out, hR2.ext hua, (HU0.out.trans_same hu2).trans_ext hua, ha, hua.at (hu2.at HNew.out (by have := HpB.out; simp; omega)) (by simp),
    NdRow.one hgn ((hn.mono (fun b hb hl => ⟨by have h1 := HU0.out.size; unfold New at hb ⊢; omega, by have h1 := lt_of_heap HNew.out; unfold New at hb; omega, by have := hl.lt; omega⟩)).ext hua) ⟨by have := HS2.out; omega, by have := HS2.out; omega⟩, by simp, by simp⟩
  clear hn hR2 hu2 ha hua hgn HS2
  obtain ⟨i0, hi0, hz0, hz1, hz2⟩ := info59'
  go_wp2_with fail
  go_loopw [3] (fun v wr => Hid (ImpI w p l of s s' a v wr)) (fun _ wr => l.length - nxOf wr p)
  case atStart => exact HI0
  case round =>
    obtain ⟨k, ms, t, c, hl, hR, hu, ha, hz, hrow, hne, hlm⟩ := hrel.out
    obtain ⟨g, cap, rfl, hcap, hgl, hcell⟩ := hrow.cells hne
    have HI := Lib.hid (And.intro hR (And.intro hu (And.intro ha (And.intro hz hrow))))
    have HC := Lib.hid (takes_calls wr p l t [105, 109, 112, 108, 105, 101, 115] hR hlen)
    have HNX := Lib.hid hR.nx
    have hml : ms.length ≤ 1000001 := by have := hR.inb; omega
    have HML := Lib.hid hlm
    clear hrel HI0
    cases k with
    | zero => unfold implLoop at hl; cases hl
    | succ k =>
    unfold implLoop at hl
    cases hv : isF l [105, 109, 112, 108, 105, 101, 115] t with
    | true =>
      rw [hv] at HC hl
      have HT : Hid ((takesF l [105, 109, 112, 108, 105, 101, 115] t).2 = stepF t) := Lib.hid (by unfold takesF; rw [if_pos hv])
      have HV3 : Hid (∃ m4 t4, orsP l of (stepF t) = some (m4, t4) ∧ implLoop l (orsP l of) k (ms ++ [m4]) t4 = some (a, s')) := Lib.hid (by
        simp only [if_true] at hl
        cases hq : orsP l of (stepF t) with
        | none => rw [hq] at hl; cases hl
        | some r => obtain ⟨m4, t4⟩ := r; rw [hq] at hl; exact ⟨m4, t4, rfl, hl⟩)
      have HK := Lib.hid (isF_ne hv)
      clear hR hu ha hz hrow hl hv hcell
      go_wp2_with fail
      refine HC.out.mono ?_
      rintro e w3 ⟨rfl, hR3, hu3⟩
      rw [HT.out] at hR3
      have HR3 := Lib.hid hR3
      have HU3 := Lib.hid hu3
      have HROW3 := Lib.hid (HI.out.2.2.2.2.upto hu3 (fun k hk => by simp at hk; have := HpB.out; omega))
      clear hR3 hu3
      obtain ⟨m4, t4, he4, hl4⟩ := HV3.out
      have HL4 := Lib.hid hl4
      have HE4 := Lib.hid he4
      clear he4 hl4
      have HUW : Hid (Upto [p] w w3) := Lib.hid (HI.out.2.1.trans_same HU3.out)
      go_wp2_with (first
        | (refine (HO.out w3 HUW.out (stepF t) m4 t4 HR3.out (by have := HI.out.2.2.1.dp; show t.dp ≤ 256; omega) HE4.out).mono ?_
           rintro e w4 ⟨v4, rfl, hn4, hR4, hu4, ha4⟩
           obtain ⟨ob, nb1, nb2, nb3, sb, mb, qb, lb1, lb2, lb3, rfl⟩ := hn4.six
           have HN4 := Lib.hid hn4
           have HR4 := Lib.hid hR4
           have HU4 := Lib.hid hu4
           have HA4 := Lib.hid ha4
           have HROW4 := Lib.hid (HROW3.out.upto hu4 (fun k hk => by simp at hk; have := HpB.out; omega))
           clear hn4 hR4 hu4 ha4)
        | (at_builtin
           refine wpList_app _ rfl (.tmp 12) (.tmp 15) 32 rfl 34 i0 (.agg #[.int .i64 0, .slice none 0 0, .int .i64 0, .int .i64 0, .int .i64 0, .slice none 0 0]) 6 80 Tryz.underlying32 hi0 hz0 hz1 hz2 rfl (by decide) (.slice (some ⟨g, 0, none⟩) ms.length cap) ms.length (cellsN c ms.length) rfl (HROW4.out.row.alloc _) ⟨w4.heap.size, 0, none⟩ 1 1 [.int .i64 ob, .slice nb1 nb2 nb3, .int .i64 sb, .int .i64 mb, .int .i64 qb, .slice lb1 lb2 lb3] rfl rfl (six_at (new_at _ _)) (by simp [Value.oneCell']) (by unfold maxLen; omega) (by omega) ?_
           intro b5 c5 w5 ho5 hu5 hw5))
      have hg3 : g < w3.heap.size := Nat.lt_of_lt_of_le hgl HU3.out.size
      have hua := (Upto.refl [] w4).alloc (.cells #[.int .i64 ob, .slice nb1 nb2 nb3, .int .i64 sb, .int .i64 mb, .int .i64 qb, .slice lb1 lb2 lb3] 34)
      have hown := HROW4.out.own g rfl
      have hsz4 := (HUW.out.trans_same HU4.out).size
      have hz4 := HU4.out.at (HU3.out.at HI.out.2.2.2.1 (by have := HpB.out; simp; omega)) (by have := HpB.out; simp; omega)
      have hp := HpB.out
      have hu5g : Upto [g] (w4.alloc (.cells #[.int .i64 ob, .slice nb1 nb2 nb3, .int .i64 sb, .int .i64 mb, .int .i64 qb, .slice lb1 lb2 lb3] 34)) w5 := hu5
      have hR5 := (HR4.out.ext hua).above hu5g (fun k hk => by simp at hk; omega)
      have hrow5 := NdRow.app (HROW4.out.upto hua (by simp)) (by simp; omega) (by have := lt_of_heap hz4; simp; omega) ((HN4.out.mono (fun b hb hl => ⟨by have := HUW.out.size; unfold New at hb ⊢; omega, by have := lt_of_heap (HU3.out.at HI.out.2.2.2.1 (by simp; omega)); unfold New at hb; omega, by unfold New at hb; simp [Value.ownBlock]; omega⟩)).ext hua) ho5 hu5 hw5
      have a5 := Adv.step HF.out HI.out.1.inb HK.out
      refine ⟨Lib.hid ⟨k, ms ++ [m4], t4, _, HL4.out, hR5, ((HUW.out.trans_same HU4.out).trans_ext hua).trans hu5g (fun k hk => Or.inr (by simp at hk; omega)), HI.out.2.2.1.trans (a5.trans HA4.out), hu5g.at (hua.at hz4 (by simp)) (by simp; omega), hrow5, by simp, ?_⟩, ?_⟩
      · have h1 := HML.out
        have h2 := HA4.out.le
        have h3 : (stepF t).nx = t.nx + 1 := rfl
        simp
        omega
      · have h1 := HNX.out
        have h2 := HA4.out.le
        have h3 : (stepF t).nx = t.nx + 1 := rfl
        have h4 := HA4.out.lt
        rw [hR5.nx, h1]
        omega
    | false =>
      rw [hv] at HC hl
      have HT : Hid ((takesF l [105, 109, 112, 108, 105, 101, 115] t).2 = t) := Lib.hid (by unfold takesF; rw [hv]; rfl)
      simp at hl
      obtain ⟨rfl, rfl⟩ := hl
      clear hR hu ha hz hrow hv
      go_wp2_with fail
      refine HC.out.mono ?_
      rintro e w3 ⟨rfl, hR3, hu3⟩
      rw [HT.out] at hR3
      have hg3 : ∀ i j, i < ms.length → j < 6 → w3.cell? ⟨g, 0 + i * 6 + j, none⟩ = some (c i j) := fun i j hi hj => (hu3.cell (p := ⟨g, 0 + i * 6 + j, none⟩) hgl (by have := (HI.out.2.2.2.2.own g rfl).1; have := HpB.out; simp; omega)).trans (hcell i j hi hj)
      obtain ⟨r, hr⟩ : ∃ r, ms.length = r + 1 := ⟨ms.length - 1, by have := List.length_pos_iff.2 hne; omega⟩
      have HROW3 := Lib.hid (HI.out.2.2.2.2.upto hu3 (fun k hk => by simp at hk; have := HpB.out; omega))
      have HR3 := Lib.hid hR3
      have HU3 := Lib.hid (HI.out.2.1.trans_same hu3)
      have HZ3 := Lib.hid (hu3.at HI.out.2.2.2.1 (by have := HpB.out; simp; omega))
      have HG3 := Lib.hid hg3
      have HLEN := Lib.hid hr
      have HADV := Lib.hid HI.out.2.2.1
      have HGL := Lib.hid (Nat.lt_of_lt_of_le hgl hu3.size)
      have e0 := hg3 r 0 (by omega) (by decide)
      have e1 := hg3 r 1 (by omega) (by decide)
      have e2 := hg3 r 2 (by omega) (by decide)
      have e3 := hg3 r 3 (by omega) (by decide)
      have e4 := hg3 r 4 (by omega) (by decide)
      have e5 := hg3 r 5 (by omega) (by decide)
      simp only [Nat.zero_add, Nat.add_zero] at e0 e1 e2 e3 e4 e5
      obtain ⟨ml, hml2⟩ : ∃ x, ms[r]? = some x := ⟨_, List.getElem?_eq_getElem (by omega)⟩
      have hlast := Lib.hid (HROW3.out.nd r ml hml2)
      have HML2 := Lib.hid hml2
      clear hml2
      have hrI : (r : Int) ≤ 1000001 := by omega
      have hr0 : (0 : Int) ≤ r := by omega
      have hcr : (r : Int) + 1 ≤ cap := by omega
      rw [hr]
      have hi1 : ((r + 1 : Nat) : Int) = (r : Int) + 1 := by omega
      obtain ⟨xo, xn1, xn2, xn3, xs1, xm, xq, xl1, xl2, xl3, hx6⟩ := hlast.out.six
      simp only [Value.agg.injEq, Array.mk.injEq, List.cons.injEq, and_true] at hx6
      obtain ⟨y0, y1, y2, y3, y4, y5⟩ := hx6
      rw [y0] at e0
      rw [y1] at e1
      rw [y2] at e2
      rw [y3] at e3
      rw [y4] at e4
      rw [y5] at e5
      have HX6 := Lib.hid (And.intro y0 (And.intro y1 (And.intro y2 (And.intro y3 (And.intro y4 y5)))))
      clear hR3 hu3 hg3 hcell hr hlm hml HC y0 y1 y2 y3 y4 y5
      go_wp2_with fail
      refine ((callsIn_wide (n := 5)).1 (backn_in 5 _ _ _ _)).mono ?_
      clear e0 e1 e2 e3 e4 e5
      rintro e w4 ⟨rfl, rfl⟩
      have hG := HG3.out
      have hgl3 := HGL.out
      have hpB := HpB.out
      have hgB := HROW3.out.own g rfl
      have hmlr := HLEN.out
      have hx6 := HX6.out
      have hB3 := lt_of_heap HZ3.out
      have HS6 : Hid (((w3.alloc (.cells #[.int .i64 xo, .slice xn1 xn2 xn3, .int .i64 xs1, .int .i64 xm, .int .i64 xq, .slice xl1 xl2 xl3] 34)).alloc (.cells #[.slice (some ⟨g, 0, none⟩) r cap] 32)).heap.size = w3.heap.size + 1 + 1) := Lib.hid (by simp)
      have HI6 : Hid (ImB w p w.heap.size w3.heap.size (w3.heap.size + 1) l t ms c (.slice (some ⟨g, 0, none⟩) r cap) (Down ([] : List (Ix r))) r ((w3.alloc (.cells #[.int .i64 xo, .slice xn1 xn2 xn3, .int .i64 xs1, .int .i64 xm, .int .i64 xq, .slice xl1 xl2 xl3] 34)).alloc (.cells #[.slice (some ⟨g, 0, none⟩) r cap] 32))) := Lib.hid (by
        have hua := (Upto.refl [] w3).alloc (.cells #[.int .i64 xo, .slice xn1 xn2 xn3, .int .i64 xs1, .int .i64 xm, .int .i64 xq, .slice xl1 xl2 xl3] 34)
        have hub := (Upto.refl [] (w3.alloc (.cells #[.int .i64 xo, .slice xn1 xn2 xn3, .int .i64 xs1, .int .i64 xm, .int .i64 xq, .slice xl1 xl2 xl3] 34))).alloc (.cells #[.slice (some ⟨g, 0, none⟩) r cap] 32)
        have hnd : ∀ i m, ms[i]? = some m → NdV w3 (Lo w w.heap.size w3.heap.size) m (.agg #[c i 0, c i 1, c i 2, c i 3, c i 4, c i 5]) := fun i m hi => (HROW3.out.nd i m hi).mono (fun b hb hl => ⟨hb.1, hb.2.1, by have := hl.lt; omega⟩)
        refine ⟨(HR3.out.ext hua).ext hub, (HU3.out.alloc _).alloc _, hub.at (hua.at HZ3.out (by simp)) (by simp), new_at1 _ _ _, fun i m hi => ((hnd i m hi).ext hua).ext hub, xo, xn1, xn2, xn3, xs1, xm, xq, xl1, xl2, xl3, hub.at (new_at _ _) (by simp), fun _ => ?_⟩
        have hd : ms.drop r = [ml] := by
          obtain ⟨h1, h2⟩ := List.getElem?_eq_some_iff.1 HML2.out
          rw [List.drop_eq_getElem_cons h1, h2, List.drop_eq_nil_of_le (by omega)]
        rw [hd]
        have := hnd r ml HML2.out
        rw [hx6.1, hx6.2.1, hx6.2.2.1, hx6.2.2.2.1, hx6.2.2.2.2.1, hx6.2.2.2.2.2] at this
        exact (this.ext hua).ext hub)
      have HC6 : Hid (∀ i j, i < r → j < 6 → ((w3.alloc (.cells #[.int .i64 xo, .slice xn1 xn2 xn3, .int .i64 xs1, .int .i64 xm, .int .i64 xq, .slice xl1 xl2 xl3] 34)).alloc (.cells #[.slice (some ⟨g, 0, none⟩) r cap] 32)).cell? ⟨g, 0 + i * 6 + j, none⟩ = some (c i j)) := Lib.hid (fun i j hi hj => (((Upto.refl [] w3).alloc _).alloc _).cell (p := ⟨g, 0 + i * 6 + j, none⟩) hgl3 (by simp) |>.trans (hG i j (by omega) hj))
      clear hG hx6
      go_wp2_with fail
      refine (wpIn_wide (n := 5)).1 ?_
      refine wpIn_rangeFunc_ownH (F := Fence.wide) (n := 5) rfl (by omega) (gf := 148) (lb := #[.pointer (some ⟨w3.heap.size + 1, 0, none⟩)]) rfl trivial (enters_of Tryz.func148 (by kernel_rfl) rfl)
        (back_stops (5 - 1) (by omega) (w3.heap.size + 1) g 0 r cap (by omega) c ((w3.alloc (.cells #[.int .i64 xo, .slice xn1 xn2 xn3, .int .i64 xs1, .int .i64 xm, .int .i64 xq, .slice xl1 xl2 xl3] 34)).alloc (.cells #[.slice (some ⟨g, 0, none⟩) r cap] 32)) (by simp; omega) (new_at1 _ _ _) HC6.out) (fun h k => h.trans k)
        (fun W lx o o' hlx ho hc _ => fun b hb => World.putObj_heap_other (by simp at hb hlx; omega)) (Below.refl _ _) (fun _ => rfl)
        (fun pre W => ImB w p w.heap.size w3.heap.size (w3.heap.size + 1) l t ms c (.slice (some ⟨g, 0, none⟩) r cap) (Down pre) (r - pre.length) W) (fun _ _ _ => False)
        (fun pre W W' row hI hg hr => hI.grown (b0 := w3.heap.size + 1 + 1) ⟨by omega, by omega⟩ hg (fun rr e => by have := hr rr e; rw [HS6.out] at this; exact this))
        (fun _ _ _ _ _ hs _ _ => hs) HI6.out
        (fun x a' W => ∃ Bx v30, a' = { tmps := #[.pointer (some ⟨p, 0, none⟩), undef, .pointer (some ⟨w.heap.size, 0, none⟩), .slice (some ⟨g, 0, none⟩) (r + 1) cap, .pointer (some ⟨w3.heap.size, 0, none⟩), undef, .pointer (some ⟨Bx, 0, none⟩), .pointer (some ⟨p, 0, none⟩), .agg #[.int .i64 oa, .slice na1 na2 na3, .int .i64 sa, .int .i64 ma, .int .i64 qa, .slice la1 la2 la3], .slice (some ⟨w2.heap.size, 0, none⟩) 1 1, .pointer (some ⟨p, 0, none⟩), .bool false, u12, u13, u14, u15, u16, .slice (some ⟨g, 0, none⟩) (r + 1) cap, .slice (some ⟨g, 0, none⟩) (r + 1) cap, .int .i64 ((r : Int) + 1), .int .i64 r, .pointer (some ⟨g, r * 6, none⟩), .agg #[.int .i64 xo, .slice xn1 xn2 xn3, .int .i64 xs1, .int .i64 xm, .int .i64 xq, .slice xl1 xl2 xl3], .slice (some ⟨g, 0, none⟩) (r + 1) cap, .slice (some ⟨g, 0, none⟩) (r + 1) cap, .int .i64 ((r : Int) + 1), .int .i64 r, .slice (some ⟨g, 0, none⟩) r cap, .func (.func 148) #[] #[.pointer (some ⟨w3.heap.size + 1, 0, none⟩)], .int .i64 x.1, v30, undef, undef, undef, undef, undef], defers := [] } ∧ W.heap[Bx]? = some (.cells #[c x.1 0, c x.1 1, c x.1 2, c x.1 3, c x.1 4, c x.1 5] 34 (0, 0)))
        (fun x a' _ W W' row hs hg hr => by
          obtain ⟨Bx, v30, h1, h2⟩ := hs
          exact ⟨Bx, v30, h1, (grownBy_keeps_cells hg (fun rr e => (hr rr e).2) h2 rfl).trans h2⟩) ?assign ?body ?done ?stop
      case assign =>
        intro lx pre x W K hI hK
        obtain ⟨mx, hmx⟩ : ∃ m, ms[x.1]? = some m := ⟨_, List.getElem?_eq_getElem (by have := x.2; omega)⟩
        obtain ⟨o', p1, p2, p3, s1, m1, q1, l1, l2, l3, hsix⟩ := (hI.nd _ _ hmx).six
        simp only [Value.agg.injEq, Array.mk.injEq, List.cons.injEq, and_true] at hsix
        obtain ⟨z0, z1, z2, z3, z4, z5⟩ := hsix
        have HIW := Lib.hid hI
        have HKW := Lib.hid hK
        have HSX := Lib.hid (And.intro z0 (And.intro z1 (And.intro z2 (And.intro z3 (And.intro z4 z5)))))
        unfold encsB
        rw [z0, z1, z2, z3, z4, z5]
        clear hI hK z0 z1 z2 z3 z4 z5
        gi_wp2
        have hu : Upto [] W (W.alloc (.cells #[.int .i64 o', .slice p1 p2 p3, .int .i64 s1, .int .i64 m1, .int .i64 q1, .slice l1 l2 l3] 34)) := (Upto.refl [] W).alloc _
        refine HKW.out _ _ ⟨hu.size, fun k o _ hk _ => hu.at hk (by simp)⟩ (fun b hb => ?_) (HIW.out.ext hu) ⟨_, _, rfl, ?_⟩
        · simp at hb
          rcases hb with rfl | rfl
          · exact hu.block _ (lt_of_heap HIW.out.bs) (by simp)
          · have h1 := HIW.out.acc
            exact hu.block _ (by have h2 := HIW.out.up.size; have h3 := lt_of_heap HIW.out.bs; omega) (by simp)
        · obtain ⟨z0, z1, z2, z3, z4, z5⟩ := HSX.out
          rw [z0, z1, z2, z3, z4, z5]
          exact new_at _ _
      case body =>
        rintro lx pre x a' W - - hI ⟨Bx, v30, rfl, hbx⟩ hlen
        obtain ⟨mx, hmx⟩ : ∃ m, ms[x.1]? = some m := ⟨_, List.getElem?_eq_getElem (by have := x.2; omega)⟩
        obtain ⟨o', p1, p2, p3, s1, m1, q1, l1, l2, l3, hsix⟩ := (hI.nd _ _ hmx).six
        simp only [Value.agg.injEq, Array.mk.injEq, List.cons.injEq, and_true] at hsix
        obtain ⟨z0, z1, z2, z3, z4, z5⟩ := hsix
        obtain ⟨ob, nb1, nb2, nb3, sb, mb, qb, lb1, lb2, lb3, hn, hacc⟩ := hI.acc
        have hz : (.int .i64 o' = c x.1 0 ∧ .slice p1 p2 p3 = c x.1 1 ∧ .int .i64 s1 = c x.1 2 ∧ .int .i64 m1 = c x.1 3 ∧ .int .i64 q1 = c x.1 4 ∧ .slice l1 l2 l3 = c x.1 5) := ⟨z0.symm, z1.symm, z2.symm, z3.symm, z4.symm, z5.symm⟩
        rw [z0, z1, z2, z3, z4, z5] at hbx
        have hnx := ImB.next (q := x.1) (ok2 := Down (pre ++ [x])) hI rfl hpB hB3 (by omega) hmx (fun hd => by have h1 := hd.snoc; exact ⟨h1.1, by omega, by have := x.2; omega⟩) hz hn hacc
        have hna := ((Upto.refl [] W).alloc (.cells #[.int .i64 o', .slice p1 p2 p3, .int .i64 s1, .int .i64 m1, .int .i64 q1, .slice l1 l2 l3, .int .i64 ob, .slice nb1 nb2 nb3, .int .i64 sb, .int .i64 mb, .int .i64 qb, .slice lb1 lb2 lb3] 34)).at hn (by simp)
        obtain ⟨cc0, cc1, cc2, cc3, cc4, cc5⟩ := cells6 hbx
        obtain ⟨d0, d1, d2, d3, d4, d5⟩ := frees6 hbx
        obtain ⟨h0, h1, h2, h3, h4, h5⟩ := cells6 hn
        obtain ⟨i0, i1, i2, i3, i4, i5⟩ := frees6 hn
        obtain ⟨e0, e1, e2, e3, e4, e5⟩ := cells6 hna
        obtain ⟨f0, f1, f2, f3, f4, f5⟩ := frees6 hna
        have HNX := Lib.hid hnx
        have HNN := Lib.hid hn
        have HIW := Lib.hid hI
        have hlb := lt_of_heap hI.bs
        have HLB := Lib.hid hlb
        clear z0 z1 z2 z3 z4 z5 hz hnx hna hn hbx hacc hI hlb
        gi_wp2
        have hq := HNX.out
        refine ⟨⟨hq.2.size, fun k o _ hk ho => hq.2.at hk (by simp; rintro rfl; have := HNN.out; rw [hk] at this; cases this; cases ho)⟩, fun b hb => ?_, ?_⟩
        · simp at hb
          rcases hb with rfl | rfl
          · exact hq.2.block _ HLB.out (by simp)
          · exact hq.2.block _ (by have := HLB.out; omega) (by simp; omega)
        · refine hq.1.at (fun hd => ?_)
          have h1 := hd.snoc.2
          simp
          omega
      case done =>
        rintro D xs W hD ⟨hDn, hlen⟩ hI hK
        have hI0 := hI.at (k' := 0) (fun _ => by omega)
        obtain ⟨oa, na1, na2, na3, sa, ma, qa, la1, la2, la3, hn, hacc⟩ := hI0.acc
        have hz := hI.z
        obtain ⟨h0, h1, h2, h3, h4, h5⟩ := cells6 hn
        obtain ⟨i0, i1, i2, i3, i4, i5⟩ := frees6 hn
        obtain ⟨z0, z1, z2, z3, z4, z5⟩ := cells6 hz
        obtain ⟨y0, y1, y2, y3, y4, y5⟩ := frees6 hz
        have hDs : w3.heap.size + 1 + 1 ≤ D := by have := HS6.out; omega
        have hst := nd_self W w.heap.size (.int .i64 oa) (.slice na1 na2 na3) (.int .i64 sa) (.int .i64 ma) (.int .i64 qa) (.slice la1 la2 la3)
        have HD4 := Lib.hid (hst.at hK (by simp; omega))
        have HDN := Lib.hid (show ¬ IsC ((((((W.setCell ⟨w.heap.size, 0, none⟩ (.int .i64 oa)).setCell ⟨w.heap.size, 1, none⟩ (.slice na1 na2 na3)).setCell ⟨w.heap.size, 2, none⟩ (.int .i64 sa)).setCell ⟨w.heap.size, 3, none⟩ (.int .i64 ma)).setCell ⟨w.heap.size, 4, none⟩ (.int .i64 qa)).setCell ⟨w.heap.size, 5, none⟩ (.slice la1 la2 la3)) D from fun ⟨cs, t, z, h⟩ => by have := hst.at hK (by simp; omega); rw [h] at this; cases this)
        have hs := nd_store hz (.int .i64 oa) (.slice na1 na2 na3) (.int .i64 sa) (.int .i64 ma) (.int .i64 qa) (.slice la1 la2 la3)
        have hs2 : ((((((((W.setCell ⟨w.heap.size, 0, none⟩ (.int .i64 oa)).setCell ⟨w.heap.size, 1, none⟩ (.slice na1 na2 na3)).setCell ⟨w.heap.size, 2, none⟩ (.int .i64 sa)).setCell ⟨w.heap.size, 3, none⟩ (.int .i64 ma)).setCell ⟨w.heap.size, 4, none⟩ (.int .i64 qa)).setCell ⟨w.heap.size, 5, none⟩ (.slice la1 la2 la3))).putObj D (.deferred none)).heap[w.heap.size]? = some (.cells #[.int .i64 oa, .slice na1 na2 na3, .int .i64 sa, .int .i64 ma, .int .i64 qa, .slice la1 la2 la3] 34 (0, 0)) := (World.putObj_heap_other (by omega)).trans hs
        have HFIN := Lib.hid (rdpost_at (l := l) (s := s) (s' := t) (n := implFold ms) (P := Lo w w.heap.size w3.heap.size) (Nat.le_refl _) hpB hI.up hI.rd hz HADV.out (by have := hacc hDn; simpa using this) (fun b hb _ => ⟨hb.1, hb.2.1⟩))
        have HUD : Hid (Upto [D] ((((((W.setCell ⟨w.heap.size, 0, none⟩ (.int .i64 oa)).setCell ⟨w.heap.size, 1, none⟩ (.slice na1 na2 na3)).setCell ⟨w.heap.size, 2, none⟩ (.int .i64 sa)).setCell ⟨w.heap.size, 3, none⟩ (.int .i64 ma)).setCell ⟨w.heap.size, 4, none⟩ (.int .i64 qa)).setCell ⟨w.heap.size, 5, none⟩ (.slice la1 la2 la3)) ((((((((W.setCell ⟨w.heap.size, 0, none⟩ (.int .i64 oa)).setCell ⟨w.heap.size, 1, none⟩ (.slice na1 na2 na3)).setCell ⟨w.heap.size, 2, none⟩ (.int .i64 sa)).setCell ⟨w.heap.size, 3, none⟩ (.int .i64 ma)).setCell ⟨w.heap.size, 4, none⟩ (.int .i64 qa)).setCell ⟨w.heap.size, 5, none⟩ (.slice la1 la2 la3))).putObj D (.deferred none))) := Lib.hid ((Upto.refl [D] _).grown (grownBy_putObj' _ D _) (fun k e => by cases e; simp))
        obtain ⟨q0, q1, q2, q3, q4, q5⟩ := cells6 hs2
        obtain ⟨v0, v1, v2, v3, v4, v5⟩ := frees6 hs2
        have HDS := Lib.hid hDs
        clear hI hI0 hn hacc hz hst hs hs2 hK hDs
        go_wp2_with fail
        refine ⟨by simp, .inl ⟨_, _, rfl, run_takeDeferred HD4.out, ?_⟩⟩
        exact ⟨.agg #[.int .i64 oa, .slice na1 na2 na3, .int .i64 sa, .int .i64 ma, .int .i64 qa, .slice la1 la2 la3], by simp [results, Tryz.results92, go_sem, q0, q1, q2, q3, q4, q5], HFIN.out.put HUD.out ⟨by have := HDS.out; omega, by have := HDS.out; omega⟩ HDN.out⟩
      case stop =>
        rintro D c' pre W _ _ h _
        exact h.elim
end Go.Proofs.YtkhbpebpljdifaaGreatDoor
namespace Go.Proofs.YtkhbpebpljdifaaGreatDoor
open Go.RowKit Go.PL Go.Maps
theorem operand_calls (p : Nat) (l : List Tok) (htx : ∀ t ∈ l, t.text.length ≤ 65536) : ∀ (d : Nat) (w : World) (s : PS) (n : Nd) (s' : PS), Cx w p l → RdAt w p l s → s.dp ≤ 256 → operandP l d s = some (n, s') → Calls Tryz.prog 147 #[.pointer (some ⟨p, 0, none⟩)] w (RdPost w p l s n s')
  | 0, w, s, n, s', _, _, _, he => by unfold operandP at he; cases he
  | d + 1, w, s, n, s', hx, h, hd, he => by
    have hop : Rdr w p l 147 #[.pointer (some ⟨p, 0, none⟩)] (operandP l d) := fun w1 s1 n1 s2 hu hR hd1 he1 => operand_calls p l htx d w1 s1 n1 s2 (hx.upto hu) hR hd1 he1
    have him : Rdr w p l 92 #[.pointer (some ⟨p, 0, none⟩)] (impliesP l (operandP l d)) := fun w1 s1 n1 s2 hu hR hd1 he1 => implies_calls w1 p l s1 s2 n1 (operandP l d) (hx.upto hu) hR hd1 (hop.upto hu) he1
    have hfm : Rdr w p l 58 #[.pointer (some ⟨p, 0, none⟩)] (formulaP l (operandP l d)) := fun w1 s1 n1 s2 hu hR hd1 he1 => formula_calls w1 p l s1 s2 n1 (operandP l d) (hx.upto hu) hR hd1 (him.upto hu) he1
    have hlen : (tkAt l s).text.length ≤ 65536 := htx _ (List.mem_of_getElem? (tk_some h.inb))
    unfold operandP at he
    simp only at he
    obtain ⟨tk, tx, tv, tl, tc, hT⟩ : ∃ tk tx tv tl tc, tkAt l s = ⟨tk, tx, tv, tl, tc⟩ := ⟨_, _, _, _, _, rfl⟩
    have HT := Lib.hid hT
    rw [hT] at hlen he
    simp only at he hlen
    by_cases h34 : tk = 3 ∨ tk = 4
    · have hk0 : (tkAt l s).kind ≠ 0 := by rw [hT]; simp; omega
      by_cases h0 : s.er = 0
      · rw [if_pos ⟨h34, h0⟩] at he
        by_cases e116 : tx = [116, 114, 117, 101]
        · rw [if_pos e116] at he
          subst e116
          exact operand_word w p l s s' n 170 hx h tk tv tl tc _ HT h34 h0 (Lib.hid fun w b hm => piece_116 hm) (run_enter Tryz.func170 (by kernel_rfl) rfl) (Lib.hid fun W4 hu hx4 hR4 => true_calls W4 p l s s' n hx4 hR4 hd hk0 he)
        rw [if_neg e116] at he
        by_cases e117 : tx = [102, 97, 108, 115, 101]
        · rw [if_pos e117] at he
          subst e117
          exact operand_word w p l s s' n 171 hx h tk tv tl tc _ HT h34 h0 (Lib.hid fun w b hm => piece_117 hm) (run_enter Tryz.func171 (by kernel_rfl) rfl) (Lib.hid fun W4 hu hx4 hR4 => false_calls W4 p l s s' n hx4 hR4 hd hk0 he)
        rw [if_neg e117] at he
        by_cases e118 : tx = [115, 105, 122, 101]
        · rw [if_pos e118] at he
          subst e118
          exact operand_word w p l s s' n 172 hx h tk tv tl tc _ HT h34 h0 (Lib.hid fun w b hm => piece_118 hm) (run_enter Tryz.func172 (by kernel_rfl) rfl) (Lib.hid fun W4 hu hx4 hR4 => size_calls W4 p l s s' n hx4 hR4 hd hk0 he)
        rw [if_neg e118] at he
        by_cases e120 : tx = [111, 110, 101]
        · rw [if_pos e120] at he
          subst e120
          exact operand_word w p l s s' n 174 hx h tk tv tl tc _ HT h34 h0 (Lib.hid fun w b hm => piece_120 hm) (run_enter Tryz.func174 (by kernel_rfl) rfl) (Lib.hid fun W4 hu hx4 hR4 => one_calls W4 p l s s' n hx4 hR4 hd hk0 he)
        rw [if_neg e120] at he
        by_cases e121 : tx = [110, 111, 116]
        · rw [if_pos e121] at he
          subst e121
          exact operand_word w p l s s' n 175 hx h tk tv tl tc _ HT h34 h0 (Lib.hid fun w b hm => piece_121 hm) (run_enter Tryz.func175 (by kernel_rfl) rfl) (Lib.hid fun W4 hu hx4 hR4 => not_calls W4 p l s s' n (operandP l d) hx4 hR4 hd hk0 (hop.upto hu) he)
        rw [if_neg e121] at he
        by_cases e124 : tx = [115, 111, 109, 101]
        · rw [if_pos e124] at he
          subst e124
          exact operand_word w p l s s' n 178 hx h tk tv tl tc _ HT h34 h0 (Lib.hid fun w b hm => piece_124 hm) (run_enter Tryz.func178 (by kernel_rfl) rfl) (Lib.hid fun W4 hu hx4 hR4 => some_calls W4 p l s s' n (formulaP l (operandP l d)) hx4 hR4 hd hk0 (hfm.upto hu) he)
        rw [if_neg e124] at he
        by_cases e126 : tx = [101, 118, 101, 114, 121]
        · rw [if_pos e126] at he
          subst e126
          exact operand_word w p l s s' n 180 hx h tk tv tl tc _ HT h34 h0 (Lib.hid fun w b hm => piece_126 hm) (run_enter Tryz.func180 (by kernel_rfl) rfl) (Lib.hid fun W4 hu hx4 hR4 => every_calls W4 p l s s' n (formulaP l (operandP l d)) hx4 hR4 hd hk0 (hfm.upto hu) he)
        rw [if_neg e126] at he
        by_cases e127 : tx = [40]
        · rw [if_pos e127] at he
          subst e127
          exact operand_word w p l s s' n 181 hx h tk tv tl tc _ HT h34 h0 (Lib.hid fun w b hm => piece_127 hm) (run_enter Tryz.func181 (by kernel_rfl) rfl) (Lib.hid fun W4 hu hx4 hR4 => paren_calls W4 p l s s' n (formulaP l (operandP l d)) hx4 hR4 hd hk0 (hfm.upto hu) he)
        rw [if_neg e127] at he
        exact operand_none w p l s s' n hx h tk tv tl tc tx HT hd h34 (Lib.hid fun w b hm => piece_no hm tx (by omega) (by
          intro q hq e
          simp only [pieceL, List.mem_cons, List.not_mem_nil, or_false] at hq
          rcases hq with rfl | rfl | rfl | rfl | rfl | rfl | rfl | rfl
          · exact e116 (sb_inj e).symm
          · exact e117 (sb_inj e).symm
          · exact e118 (sb_inj e).symm
          · exact e120 (sb_inj e).symm
          · exact e121 (sb_inj e).symm
          · exact e124 (sb_inj e).symm
          · exact e126 (sb_inj e).symm
          · exact e127 (sb_inj e).symm)) he
      · rw [if_neg (fun hh => h0 hh.2)] at he
        by_cases e116 : tx = [116, 114, 117, 101]
        · subst e116
          exact operand_err w p l s s' n 170 hx h tk tv tl tc _ HT hd h34 h0 (Lib.hid fun w b hm => piece_116 hm) he
        by_cases e117 : tx = [102, 97, 108, 115, 101]
        · subst e117
          exact operand_err w p l s s' n 171 hx h tk tv tl tc _ HT hd h34 h0 (Lib.hid fun w b hm => piece_117 hm) he
        by_cases e118 : tx = [115, 105, 122, 101]
        · subst e118
          exact operand_err w p l s s' n 172 hx h tk tv tl tc _ HT hd h34 h0 (Lib.hid fun w b hm => piece_118 hm) he
        by_cases e120 : tx = [111, 110, 101]
        · subst e120
          exact operand_err w p l s s' n 174 hx h tk tv tl tc _ HT hd h34 h0 (Lib.hid fun w b hm => piece_120 hm) he
        by_cases e121 : tx = [110, 111, 116]
        · subst e121
          exact operand_err w p l s s' n 175 hx h tk tv tl tc _ HT hd h34 h0 (Lib.hid fun w b hm => piece_121 hm) he
        by_cases e124 : tx = [115, 111, 109, 101]
        · subst e124
          exact operand_err w p l s s' n 178 hx h tk tv tl tc _ HT hd h34 h0 (Lib.hid fun w b hm => piece_124 hm) he
        by_cases e126 : tx = [101, 118, 101, 114, 121]
        · subst e126
          exact operand_err w p l s s' n 180 hx h tk tv tl tc _ HT hd h34 h0 (Lib.hid fun w b hm => piece_126 hm) he
        by_cases e127 : tx = [40]
        · subst e127
          exact operand_err w p l s s' n 181 hx h tk tv tl tc _ HT hd h34 h0 (Lib.hid fun w b hm => piece_127 hm) he
        exact operand_none w p l s s' n hx h tk tv tl tc tx HT hd h34 (Lib.hid fun w b hm => piece_no hm tx (by omega) (by
          intro q hq e
          simp only [pieceL, List.mem_cons, List.not_mem_nil, or_false] at hq
          rcases hq with rfl | rfl | rfl | rfl | rfl | rfl | rfl | rfl
          · exact e116 (sb_inj e).symm
          · exact e117 (sb_inj e).symm
          · exact e118 (sb_inj e).symm
          · exact e120 (sb_inj e).symm
          · exact e121 (sb_inj e).symm
          · exact e124 (sb_inj e).symm
          · exact e126 (sb_inj e).symm
          · exact e127 (sb_inj e).symm)) he
    · rw [if_neg (fun hh => h34 hh.1)] at he
      exact operand_other w p l s s' n hx h tk tv tl tc tx HT hd (by omega) (by omega) he
theorem whole_calls (p : Nat) (l : List Tok) (htx : ∀ t ∈ l, t.text.length ≤ 65536) (w : World) (s : PS) (n : Nd) (s' : PS) (hx : Cx w p l) (h : RdAt w p l s) (hd : s.dp ≤ 256) (he : wholeP l s = some (n, s')) : Calls Tryz.prog 58 #[.pointer (some ⟨p, 0, none⟩)] w (RdPost w p l s n s') := by
  have hop : Rdr w p l 147 #[.pointer (some ⟨p, 0, none⟩)] (operandP l 257) := fun w1 s1 n1 s2 hu hR hd1 he1 => operand_calls p l htx 257 w1 s1 n1 s2 (hx.upto hu) hR hd1 he1
  have him : Rdr w p l 92 #[.pointer (some ⟨p, 0, none⟩)] (impliesP l (operandP l 257)) := fun w1 s1 n1 s2 hu hR hd1 he1 => implies_calls w1 p l s1 s2 n1 (operandP l 257) (hx.upto hu) hR hd1 (hop.upto hu) he1
  exact formula_calls w p l s s' n (operandP l 257) hx h hd him he
theorem sizes_len : ∀ l : List Nd, l.length ≤ sizesF l
  | [] => by simp
  | x :: xs => by have := sizes_len xs; have := sizeF_pos x; simp only [List.length_cons, sizesF]; omega
set_option maxRecDepth 100000 in
set_option maxHeartbeats 6400000 in
theorem sizeN_calls : ∀ (k : Nat) (nd : Nd), sizeF nd ≤ k → k ≤ 10000000 → ∀ (v : Value) (w : World) (P : Nat → Prop), NdV w P nd v → Calls Tryz.prog 32 #[v] w fun e w' => e = .returned (.int .i64 (sizeF nd)) ∧ Upto [] w w'
  | 0, nd, hk, _, _, _, _, _ => by have := sizeF_pos nd; omega
  | k + 1, .mk op nms so nn mm l, hk, hk7, v, w, P, h => by
    unfold NdV at h
    obtain ⟨vn, vl, rfl, h1, h2⟩ := h
    obtain ⟨n1, n3, rfl⟩ := h1.len
    obtain ⟨av, cv, hvl, hg⟩ : ∃ av cv, vl = .slice av l.length cv ∧ ∀ i x, l[i]? = some x → ∃ g o v0 v1 v2 v3 v4 v5, av = some ⟨g, o, none⟩ ∧ w.cell? ⟨g, o + i * 6, none⟩ = some v0 ∧ w.cell? ⟨g, o + i * 6 + 1, none⟩ = some v1 ∧ w.cell? ⟨g, o + i * 6 + 2, none⟩ = some v2 ∧ w.cell? ⟨g, o + i * 6 + 3, none⟩ = some v3 ∧ w.cell? ⟨g, o + i * 6 + 4, none⟩ = some v4 ∧ w.cell? ⟨g, o + i * 6 + 5, none⟩ = some v5 ∧ NdV w P x (.agg #[v0, v1, v2, v3, v4, v5]) := by
      rcases h2 with ⟨rfl, a, c, rfl⟩ | ⟨g, o, c, rfl, -, h3⟩
      · exact ⟨a, c, rfl, fun i x h => by simp at h⟩
      · exact ⟨_, c, rfl, fun i x hi => by
          obtain ⟨v0, v1, v2, v3, v4, v5, h⟩ := h3.get l o i x hi
          exact ⟨g, o, v0, v1, v2, v3, v4, v5, rfl, h⟩⟩
    subst hvl
    have HG := Lib.hid hg
    have hsz : sizesF l ≤ k := by simp only [sizeF] at hk; omega
    have HSZ := Lib.hid hsz
    have HE : Hid (sizeF (.mk op nms so nn mm l) = 1 + sizesF l) := Lib.hid (by simp only [sizeF])
    have HLEN : Hid (l.length ≤ 10000000) := Lib.hid (by have := sizes_len l; omega)
    have hlen := HLEN.out
    generalize hll : l.length = ll at *
    have HLL := Lib.hid hll
    have hL0 : (0 : Int) ≤ ll := by omega
    have hL1 : (ll : Int) ≤ 10000000 := by omega
    clear h1 h2 hg hsz hll hlen hk
    go_enter Tryz.func32, Tryz.ntmps32
    go_wp2_with fail
    go_loopw [3, 9] (fun s i wr => ∃ j : Nat, j ≤ ll ∧ i = .int .i64 j ∧ s = .int .i64 (1 + (sizesF (l.take j) : Int)) ∧ Hid (Upto [] w wr)) (fun _ i _ => ll - (intOf i).toNat)
    case atStart => exact ⟨0, by omega, rfl, by simp [sizesF], Lib.hid ((Upto.refl [] w).alloc _)⟩
    case round =>
      obtain ⟨j, hj, rfl, rfl, HU⟩ := hrel
      rcases Nat.lt_or_ge j ll with hlt | hge
      · obtain ⟨x, hx⟩ : ∃ x, l[j]? = some x := ⟨_, List.getElem?_eq_getElem (by have := HLL.out; omega)⟩
        obtain ⟨g, o, v0, v1, v2, v3, v4, v5, rfl, c0, c1, c2, c3, c4, c5, hnx⟩ := HG.out j x hx
        obtain ⟨xo, xn1, xn2, xn3, xs, xm, xq, xl1, xl2, xl3, hsix⟩ := hnx.six
        simp only [Value.agg.injEq, Array.mk.injEq, List.cons.injEq, and_true] at hsix
        obtain ⟨rfl, rfl, rfl, rfl, rfl, rfl⟩ := hsix
        have hlb := World.block_lt_of_cell? w _ c0
        replace c0 := (HU.out.cell (p := ⟨g, o + j * 6, none⟩) hlb (by simp)).trans c0
        replace c1 := (HU.out.cell (p := ⟨g, o + j * 6 + 1, none⟩) hlb (by simp)).trans c1
        replace c2 := (HU.out.cell (p := ⟨g, o + j * 6 + 2, none⟩) hlb (by simp)).trans c2
        replace c3 := (HU.out.cell (p := ⟨g, o + j * 6 + 3, none⟩) hlb (by simp)).trans c3
        replace c4 := (HU.out.cell (p := ⟨g, o + j * 6 + 4, none⟩) hlb (by simp)).trans c4
        replace c5 := (HU.out.cell (p := ⟨g, o + j * 6 + 5, none⟩) hlb (by simp)).trans c5
        have hst := sizesF_take l j x hx
        have HST := Lib.hid hst
        have hua : Upto [] wr (wr.alloc (.cells #[.int .i64 xo, .slice xn1 xn2 xn3, .int .i64 xs, .int .i64 xm, .int .i64 xq, .slice xl1 xl2 xl3] 34)) := (Upto.refl [] wr).alloc _
        have HC := Lib.hid (sizeN_calls k x (by have := HSZ.out; omega) (by omega) _ (wr.alloc (.cells #[.int .i64 xo, .slice xn1 xn2 xn3, .int .i64 xs, .int .i64 xm, .int .i64 xq, .slice xl1 xl2 xl3] 34)) P ((hnx.ext HU.out).ext hua))
        have HUA := Lib.hid (HU.out.trans_ext hua)
        have hltI : (j : Int) < ll := by omega
        have hj0 : (0 : Int) ≤ j := by omega
        have hb1 := HSZ.out
        have hb2 := sizeF_pos x
        have hb3 := depth_le_size x
        have hb4 := depths_le_sizes (l.take j)
        generalize hA : sizesF (l.take j) = A at *
        generalize hB : sizeF x = B at *
        have hA0 : (0 : Int) ≤ A := by omega
        have hA1 : (A : Int) ≤ 10000000 := by omega
        have hB0 : (0 : Int) ≤ B := by omega
        have hB1 : (B : Int) ≤ 10000000 := by omega
        have HAB := Lib.hid (And.intro hA hB)
        clear hst hua hnx hlb hx hb1 hb2 hb3 hb4 hA hB
        go_wp2_with fail
        refine HC.out.mono ?_
        rintro e w5 ⟨rfl, hu5⟩
        have HU5 := Lib.hid (HUA.out.trans_ext hu5)
        clear hu5
        go_wp2_with fail
        go_roundw
        case rel => exact ⟨j + 1, by omega, by go_num, by rw [HST.out.1]; congr 1; omega, HU5⟩
        case measure => simp [intOf]; omega
      · obtain rfl : j = ll := by omega
        have hgeI : (j : Int) ≥ j := by omega
        have HT : Hid (l.take j = l) := Lib.hid (by rw [← HLL.out, List.take_length])
        rw [HT.out]
        have hq1 := HSZ.out
        have hq2 := depths_le_sizes l
        generalize hA : sizesF l = A at *
        have hA0 : (0 : Int) ≤ A := by omega
        have hA1 : (A : Int) ≤ 10000000 := by omega
        have HA := Lib.hid hA
        clear hq1 hq2 hA
        go_wp2
        go_ret
        exact ⟨by rw [HE.out]; exact ret_int (by omega), HU.out⟩
set_option maxRecDepth 100000 in
set_option maxHeartbeats 6400000 in
theorem depthN_calls : ∀ (k : Nat) (nd : Nd), sizeF nd ≤ k → k ≤ 10000000 → ∀ (v : Value) (w : World) (P : Nat → Prop), NdV w P nd v → Calls Tryz.prog 33 #[v] w fun e w' => e = .returned (.int .i64 (depthF nd)) ∧ Upto [] w w'
  | 0, nd, hk, _, _, _, _, _ => by have := sizeF_pos nd; omega
  | k + 1, .mk op nms so nn mm l, hk, hk7, v, w, P, h => by
    unfold NdV at h
    obtain ⟨vn, vl, rfl, h1, h2⟩ := h
    obtain ⟨n1, n3, rfl⟩ := h1.len
    obtain ⟨av, cv, hvl, hg⟩ : ∃ av cv, vl = .slice av l.length cv ∧ ∀ i x, l[i]? = some x → ∃ g o v0 v1 v2 v3 v4 v5, av = some ⟨g, o, none⟩ ∧ w.cell? ⟨g, o + i * 6, none⟩ = some v0 ∧ w.cell? ⟨g, o + i * 6 + 1, none⟩ = some v1 ∧ w.cell? ⟨g, o + i * 6 + 2, none⟩ = some v2 ∧ w.cell? ⟨g, o + i * 6 + 3, none⟩ = some v3 ∧ w.cell? ⟨g, o + i * 6 + 4, none⟩ = some v4 ∧ w.cell? ⟨g, o + i * 6 + 5, none⟩ = some v5 ∧ NdV w P x (.agg #[v0, v1, v2, v3, v4, v5]) := by
      rcases h2 with ⟨rfl, a, c, rfl⟩ | ⟨g, o, c, rfl, -, h3⟩
      · exact ⟨a, c, rfl, fun i x h => by simp at h⟩
      · exact ⟨_, c, rfl, fun i x hi => by
          obtain ⟨v0, v1, v2, v3, v4, v5, h⟩ := h3.get l o i x hi
          exact ⟨g, o, v0, v1, v2, v3, v4, v5, rfl, h⟩⟩
    subst hvl
    have HG := Lib.hid hg
    have hsz : sizesF l ≤ k := by simp only [sizeF] at hk; omega
    have HSZ := Lib.hid hsz
    have HE : Hid (depthF (.mk op nms so nn mm l) = depthsF l + 1) := Lib.hid (by simp only [depthF])
    have HLEN : Hid (l.length ≤ 10000000) := Lib.hid (by have := sizes_len l; omega)
    have hlen := HLEN.out
    generalize hll : l.length = ll at *
    have HLL := Lib.hid hll
    have hL0 : (0 : Int) ≤ ll := by omega
    have hL1 : (ll : Int) ≤ 10000000 := by omega
    clear h1 h2 hg hsz hll hlen hk
    go_enter Tryz.func33, Tryz.ntmps33
    go_wp2_with fail
    go_loopw [3, 9] (fun s i wr => ∃ j : Nat, j ≤ ll ∧ i = .int .i64 j ∧ s = .int .i64 ((depthsF (l.take j) : Int)) ∧ Hid (Upto [] w wr)) (fun _ i _ => ll - (intOf i).toNat)
    case atStart => exact ⟨0, by omega, rfl, by simp [depthsF], Lib.hid ((Upto.refl [] w).alloc _)⟩
    case round =>
      obtain ⟨j, hj, rfl, rfl, HU⟩ := hrel
      rcases Nat.lt_or_ge j ll with hlt | hge
      · obtain ⟨x, hx⟩ : ∃ x, l[j]? = some x := ⟨_, List.getElem?_eq_getElem (by have := HLL.out; omega)⟩
        obtain ⟨g, o, v0, v1, v2, v3, v4, v5, rfl, c0, c1, c2, c3, c4, c5, hnx⟩ := HG.out j x hx
        obtain ⟨xo, xn1, xn2, xn3, xs, xm, xq, xl1, xl2, xl3, hsix⟩ := hnx.six
        simp only [Value.agg.injEq, Array.mk.injEq, List.cons.injEq, and_true] at hsix
        obtain ⟨rfl, rfl, rfl, rfl, rfl, rfl⟩ := hsix
        have hlb := World.block_lt_of_cell? w _ c0
        replace c0 := (HU.out.cell (p := ⟨g, o + j * 6, none⟩) hlb (by simp)).trans c0
        replace c1 := (HU.out.cell (p := ⟨g, o + j * 6 + 1, none⟩) hlb (by simp)).trans c1
        replace c2 := (HU.out.cell (p := ⟨g, o + j * 6 + 2, none⟩) hlb (by simp)).trans c2
        replace c3 := (HU.out.cell (p := ⟨g, o + j * 6 + 3, none⟩) hlb (by simp)).trans c3
        replace c4 := (HU.out.cell (p := ⟨g, o + j * 6 + 4, none⟩) hlb (by simp)).trans c4
        replace c5 := (HU.out.cell (p := ⟨g, o + j * 6 + 5, none⟩) hlb (by simp)).trans c5
        have hst := sizesF_take l j x hx
        have HST := Lib.hid hst
        have HXX := Lib.hid hx
        have hua : Upto [] wr (wr.alloc (.cells #[.int .i64 xo, .slice xn1 xn2 xn3, .int .i64 xs, .int .i64 xm, .int .i64 xq, .slice xl1 xl2 xl3] 34)) := (Upto.refl [] wr).alloc _
        have HC := Lib.hid (depthN_calls k x (by have := HSZ.out; omega) (by omega) _ (wr.alloc (.cells #[.int .i64 xo, .slice xn1 xn2 xn3, .int .i64 xs, .int .i64 xm, .int .i64 xq, .slice xl1 xl2 xl3] 34)) P ((hnx.ext HU.out).ext hua))
        have HUA := Lib.hid (HU.out.trans_ext hua)
        have hltI : (j : Int) < ll := by omega
        have hj0 : (0 : Int) ≤ j := by omega
        have hb1 := HSZ.out
        have hb2 := sizeF_pos x
        have hb3 := depth_le_size x
        have hb4 := depths_le_sizes (l.take j)
        generalize hA : depthsF (l.take j) = A at *
        generalize hB : depthF x = B at *
        have hA0 : (0 : Int) ≤ A := by omega
        have hA1 : (A : Int) ≤ 10000000 := by omega
        have hB0 : (0 : Int) ≤ B := by omega
        have hB1 : (B : Int) ≤ 10000000 := by omega
        have HAB := Lib.hid (And.intro hA hB)
        clear hst hua hnx hlb hx hb1 hb2 hb3 hb4 hA hB
        have HMX : Hid (depthsF (l.take (j + 1)) = max A B) := Lib.hid (by rw [depthsF_take l j x HXX.out, HAB.out.1, HAB.out.2])
        rcases Nat.lt_or_ge A B with hab | hab
        · have habI : (A : Int) < B := by omega
          have hmx : max (A : Int) B = B := by omega
          go_wp2_with fail
          refine HC.out.mono ?_
          rintro e w5 ⟨rfl, hu5⟩
          have HU5 := Lib.hid (HUA.out.trans_ext hu5)
          clear hu5
          go_wp2_with fail
          go_roundw
          case rel => exact ⟨j + 1, by omega, by go_num, by rw [HMX.out]; first | rfl | (congr 1; omega), HU5⟩
          case measure => simp [intOf]; omega
        · have habI : (B : Int) ≤ A := by omega
          have hmx : max (A : Int) B = A := by omega
          go_wp2_with fail
          refine HC.out.mono ?_
          rintro e w5 ⟨rfl, hu5⟩
          have HU5 := Lib.hid (HUA.out.trans_ext hu5)
          clear hu5
          go_wp2_with fail
          go_roundw
          case rel => exact ⟨j + 1, by omega, by go_num, by rw [HMX.out]; first | rfl | (congr 1; omega), HU5⟩
          case measure => simp [intOf]; omega
      · obtain rfl : j = ll := by omega
        have hgeI : (j : Int) ≥ j := by omega
        have HT : Hid (l.take j = l) := Lib.hid (by rw [← HLL.out, List.take_length])
        rw [HT.out]
        have hq1 := HSZ.out
        have hq2 := depths_le_sizes l
        generalize hA : depthsF l = A at *
        have hA0 : (0 : Int) ≤ A := by omega
        have hA1 : (A : Int) ≤ 10000000 := by omega
        have HA := Lib.hid hA
        clear hq1 hq2 hA
        go_wp2
        go_ret
        exact ⟨by rw [HE.out]; exact ret_int (by omega), HU.out⟩
set_option maxRecDepth 100000 in
set_option maxHeartbeats 6400000 in
theorem great_calls (nd : Nd) (v : Value) (w : World) (P : Nat → Prop) (h : NdV w P nd v) (hk : sizeF nd ≤ 10000000) : Calls Tryz.prog 64 #[v] w fun e w' => e = .returned (.int .i64 (greatF nd)) ∧ Upto [] w w' := by
  obtain ⟨xo, xn1, xn2, xn3, xs, xm, xq, xl1, xl2, xl3, rfl⟩ := h.six
  have hua : Upto [] w (w.alloc (.cells #[.int .i64 xo, .slice xn1 xn2 xn3, .int .i64 xs, .int .i64 xm, .int .i64 xq, .slice xl1 xl2 xl3] 34)) := (Upto.refl [] w).alloc _
  have HS := Lib.hid (sizeN_calls _ nd hk (Nat.le_refl _) _ _ P (h.ext hua))
  have HN := Lib.hid h
  have HUA := Lib.hid hua
  have HNB := Lib.hid (new_at w (.cells #[.int .i64 xo, .slice xn1 xn2 xn3, .int .i64 xs, .int .i64 xm, .int .i64 xq, .slice xl1 xl2 xl3] 34))
  have hd := depth_le_size nd
  clear h hua
  by_cases h1 : 4096 < sizeF nd
  · have hI : (4096 : Int) < sizeF nd := by omega
    have HE : Hid (greatF nd = 8) := Lib.hid (by unfold greatF; rw [if_pos h1])
    go_enter Tryz.func64, Tryz.ntmps64
    go_wp2_with fail
    refine HS.out.mono ?_
    rintro e w2 ⟨rfl, hu2⟩
    have HU2 := Lib.hid (HUA.out.trans_ext hu2)
    clear hu2
    go_wp2_with fail
    go_ret
    exact ⟨by rw [HE.out]; rfl, HU2.out⟩
  · have hI : ¬ (4096 : Int) < sizeF nd := by omega
    have hI2 : (sizeF nd : Int) ≤ 4096 := by omega
    by_cases h2 : 256 < depthF nd
    · have hJ : (256 : Int) < depthF nd := by omega
      have HE : Hid (greatF nd = 16) := Lib.hid (by unfold greatF; rw [if_neg h1, if_pos h2])
      go_enter Tryz.func64, Tryz.ntmps64
      go_wp2_with fail
      refine HS.out.mono ?_
      rintro e w2 ⟨rfl, hu2⟩
      have hb2 := hu2.at HNB.out (by simp)
      obtain ⟨x0, x1, x2, x3, x4, x5⟩ := cells6 hb2
      obtain ⟨y0, y1, y2, y3, y4, y5⟩ := frees6 hb2
      have HU2 := Lib.hid (HUA.out.trans_ext hu2)
      have HD := Lib.hid (depthN_calls _ nd hk (Nat.le_refl _) _ w2 P (HN.out.ext HU2.out))
      clear hu2 hb2
      go_wp2_with fail
      refine HD.out.mono ?_
      rintro e w3 ⟨rfl, hu3⟩
      have HU3 := Lib.hid (HU2.out.trans_ext hu3)
      clear hu3
      go_wp2_with fail
      go_ret
      exact ⟨by rw [HE.out]; rfl, HU3.out⟩
    · have hJ : ¬ (256 : Int) < depthF nd := by omega
      have hJ2 : (depthF nd : Int) ≤ 256 := by omega
      have HE : Hid (greatF nd = 0) := Lib.hid (by unfold greatF; rw [if_neg h1, if_neg h2])
      go_enter Tryz.func64, Tryz.ntmps64
      go_wp2_with fail
      refine HS.out.mono ?_
      rintro e w2 ⟨rfl, hu2⟩
      have hb2 := hu2.at HNB.out (by simp)
      obtain ⟨x0, x1, x2, x3, x4, x5⟩ := cells6 hb2
      obtain ⟨y0, y1, y2, y3, y4, y5⟩ := frees6 hb2
      have HU2 := Lib.hid (HUA.out.trans_ext hu2)
      have HD := Lib.hid (depthN_calls _ nd hk (Nat.le_refl _) _ w2 P (HN.out.ext HU2.out))
      clear hu2 hb2
      go_wp2_with fail
      refine HD.out.mono ?_
      rintro e w3 ⟨rfl, hu3⟩
      have HU3 := Lib.hid (HU2.out.trans_ext hu3)
      clear hu3
      go_wp2_with fail
      go_ret
      exact ⟨by rw [HE.out]; rfl, HU3.out⟩
def varC (o : List UInt8 × Int) : List Value := [.string ⟨o.1.toArray⟩, .int .i64 o.2]
theorem vars_at {l : List (List UInt8 × Int)} {i : Nat} {x : List UInt8 × Int} (h : l[i]? = some x) : (l.flatMap varC)[i * 2]? = some (.string ⟨x.1.toArray⟩) ∧ (l.flatMap varC)[i * 2 + 1]? = some (.int .i64 x.2) :=
  ⟨flatMap_at varC 2 (fun _ => rfl) l i 0 x h (by decide), flatMap_at varC 2 (fun _ => rfl) l i 1 x h (by decide)⟩
set_option maxRecDepth 100000 in
set_option maxHeartbeats 1600000 in
theorem free1_calls (a tx : List UInt8) (q : Int) (tk tv tl tc Bt : Nat) (w : World) (hb : w.heap[Bt]? = some (.cells #[.int .i64 tk, .string ⟨tx.toArray⟩, .int .i64 tv, .int .i64 tl, .int .i64 tc] 83 (0, 0))) : Calls Tryz.prog 100 #[.agg #[.string ⟨a.toArray⟩, .int .i64 q], .pointer (some ⟨Bt, 0, none⟩)] w fun e w' => e = .returned (.bool (decide (a = tx))) ∧ Upto [] w w' := by
  have hu : Upto [] w (w.alloc (.cells #[.string ⟨a.toArray⟩, .int .i64 q] 86)) := (Upto.refl [] w).alloc _
  have c1 := cell_of (hu.at hb (by simp)) 1
  simp only [List.getElem?_toArray, List.getElem?_cons_zero, List.getElem?_cons_succ] at c1
  by_cases h : a = tx
  · have k1 : (a == tx) = true := by simp [h]
    have HE : Hid (decide (a = tx) = true) := Lib.hid (by simp [h])
    clear h hb
    go_enter Tryz.func100, Tryz.ntmps100
    go_wp2_with fail
    go_ret
    exact ⟨by rw [HE.out]; rfl, hu⟩
  · have k1 : (a == tx) = false := by simp [h]
    have HE : Hid (decide (a = tx) = false) := Lib.hid (by simp [h])
    clear h hb
    go_enter Tryz.func100, Tryz.ntmps100
    go_wp2_with fail
    go_ret
    exact ⟨by rw [HE.out]; rfl, hu⟩
set_option maxRecDepth 100000 in
set_option maxHeartbeats 3200000 in
theorem index_calls (out : List (List UInt8 × Int)) (tx : List UInt8) (tk tv tl tc Bt : Nat) (v : Value) (w : World) (hl : out.length ≤ 1000000) (hr : w.ownsRow 0 86 2 v out.length (out.flatMap varC)) (hb : w.heap[Bt]? = some (.cells #[.int .i64 tk, .string ⟨tx.toArray⟩, .int .i64 tv, .int .i64 tl, .int .i64 tc] 83 (0, 0))) :
    Calls Tryz.prog 134 #[v, .func (.func 100) #[] #[.pointer (some ⟨Bt, 0, none⟩)]] w fun e w' => (∃ z : Int, e = .returned (.int .i64 z) ∧ (0 ≤ z ↔ (out.any fun o => decide (o.1 = tx)) = true)) ∧ Upto [] w w' := by
  obtain ⟨va, vc, rfl, hva⟩ := ownsRow_len hr
  have hg : Hid (∀ i x, out[i]? = some x → ∃ g, va = some ⟨g, 0, none⟩ ∧ w.cell? ⟨g, i * 2, none⟩ = some (.string ⟨x.1.toArray⟩) ∧ w.cell? ⟨g, i * 2 + 1, none⟩ = some (.int .i64 x.2)) := Lib.hid (by
    intro i x hi
    have hin := (List.getElem?_eq_some_iff.1 hi).1
    rcases hr.2 with ⟨h1, h2⟩ | ⟨g, cap, cur, h1, _, hh, _, _, _, ht⟩
    · omega
    · simp at h1
      obtain ⟨rfl, rfl⟩ := h1
      have h2 := vars_at hi
      rw [← ht] at h2
      refine ⟨g, rfl, ?_, ?_⟩
      · rw [cell_of hh]
        have := h2.1
        rw [List.getElem?_take] at this
        split at this
        · simpa using this
        · cases this
      · rw [cell_of hh]
        have := h2.2
        rw [List.getElem?_take] at this
        split at this
        · simpa using this
        · cases this)
  have HB := Lib.hid hb
  clear hr hb hva
  generalize hll : out.length = ll at *
  have HLL := Lib.hid hll
  have hL0 : (0 : Int) ≤ ll := by omega
  have hL1 : (ll : Int) ≤ 1000000 := by omega
  clear hll
  go_enter Tryz.func134, Tryz.ntmps134
  go_wp2_with fail
  go_loopw [8] (fun i wr => ∃ j : Nat, j ≤ ll ∧ i = .int .i64 j ∧ Hid (Upto [] w wr ∧ ((out.take j).any fun o => decide (o.1 = tx)) = false)) (fun i _ => ll - (intOf i).toNat)
  case atStart => exact ⟨0, by omega, rfl, Lib.hid ⟨Upto.refl _ _, by simp⟩⟩
  case round =>
    obtain ⟨j, hj, rfl, HI⟩ := hrel
    rcases Nat.lt_or_ge j ll with hlt | hge
    · obtain ⟨x, hx⟩ : ∃ x, out[j]? = some x := ⟨_, List.getElem?_eq_getElem (by have := HLL.out; omega)⟩
      obtain ⟨g, rfl, c0, c1⟩ := hg.out j x hx
      have hlb := World.block_lt_of_cell? w _ c0
      replace c0 := (HI.out.1.cell (p := ⟨g, j * 2, none⟩) hlb (by simp)).trans c0
      replace c1 := (HI.out.1.cell (p := ⟨g, j * 2 + 1, none⟩) hlb (by simp)).trans c1
      have HC := Lib.hid (free1_calls x.1 tx x.2 tk tv tl tc Bt wr (HI.out.1.at HB.out (by simp)))
      have HS : Hid ((out.take (j + 1)).any (fun o => decide (o.1 = tx)) = decide (x.1 = tx)) := Lib.hid (by
        obtain ⟨h1, h2⟩ := List.getElem?_eq_some_iff.1 hx
        rw [List.take_succ_eq_append_getElem h1, List.any_append, HI.out.2, h2]
        simp)
      have HX := Lib.hid hx
      have hltI : (j : Int) < ll := by omega
      have hj0 : (0 : Int) ≤ j := by omega
      clear hx hlb
      cases hd : decide (x.1 = tx) with
      | true =>
        rw [hd] at HC HS
        have HANY : Hid ((out.any fun o => decide (o.1 = tx)) = true) := Lib.hid (by
          rw [List.any_eq_true]
          exact ⟨x, List.mem_of_getElem? HX.out, hd⟩)
        clear hd
        go_wp2_with fail
        refine HC.out.mono ?_
        rintro e w5 ⟨rfl, hu5⟩
        have HU5 := Lib.hid (HI.out.1.trans_ext hu5)
        clear hu5
        go_wp2_with fail
        go_ret
        exact ⟨⟨(j : Int), rfl, by rw [HANY.out]; simp⟩, HU5.out⟩
      | false =>
        rw [hd] at HC HS
        clear hd
        go_wp2_with fail
        refine HC.out.mono ?_
        rintro e w5 ⟨rfl, hu5⟩
        have HU5 := Lib.hid (HI.out.1.trans_ext hu5)
        clear hu5
        go_wp2_with fail
        go_roundw
        case rel => exact ⟨j + 1, by omega, by go_num, Lib.hid ⟨HU5.out, HS.out⟩⟩
        case measure => simp [intOf]; omega
    · obtain rfl : j = ll := by omega
      have hgeI : (j : Int) ≥ j := by omega
      have HANY : Hid ((out.any fun o => decide (o.1 = tx)) = false) := Lib.hid (by
        have := HI.out.2
        rwa [← HLL.out, List.take_length] at this)
      go_wp2
      go_ret
      exact ⟨⟨-1, rfl, by rw [HANY.out]; simp⟩, HI.out.1⟩
set_option maxRecDepth 100000 in
set_option maxHeartbeats 1600000 in
theorem contains_calls (out : List (List UInt8 × Int)) (tx : List UInt8) (tk tv tl tc Bt : Nat) (v : Value) (w : World) (hl : out.length ≤ 1000000) (hr : w.ownsRow 0 86 2 v out.length (out.flatMap varC)) (hb : w.heap[Bt]? = some (.cells #[.int .i64 tk, .string ⟨tx.toArray⟩, .int .i64 tv, .int .i64 tl, .int .i64 tc] 83 (0, 0))) :
    Calls Tryz.prog 99 #[v, .func (.func 100) #[] #[.pointer (some ⟨Bt, 0, none⟩)]] w fun e w' => e = .returned (.bool (out.any fun o => decide (o.1 = tx))) ∧ Upto [] w w' := by
  have HC := Lib.hid (index_calls out tx tk tv tl tc Bt v w hl hr hb)
  generalize (out.any fun o => decide (o.1 = tx)) = b at *
  clear hr hb
  go_enter Tryz.func99, Tryz.ntmps99
  go_wp2_with fail
  refine HC.out.mono ?_
  rintro e w2 ⟨⟨z, rfl, hz⟩, hu2⟩
  have HU := Lib.hid hu2
  cases b with
  | true =>
    have h0 : (0 : Int) ≤ z := hz.2 rfl
    clear hz hu2
    go_wp2_with fail
    go_ret
    exact ⟨rfl, HU.out⟩
  | false =>
    have h0 : ¬ (0 : Int) ≤ z := fun h => by have := hz.1 h; cases this
    clear hz hu2
    go_wp2_with fail
    go_ret
    exact ⟨by first | rfl | exact ret_bool (decide_eq_false (by omega)), HU.out⟩
structure FrI (w : World) (p : Nat) (l : List Tok) (s t : PS) (out : List (List UInt8 × Int)) (v : Value) (wr : World) : Prop where
  rd : RdAt wr p l t
  up : Upto [p] w wr
  adv : Adv l s t
  row : wr.ownsRow 0 86 2 v out.length (out.flatMap varC)
  own : ∀ g, v.ownBlock = some g → w.heap.size ≤ g
  ne : p < w.heap.size
theorem FrI.go {w : World} {p : Nat} {l : List Tok} {s t t' : PS} {out : List (List UInt8 × Int)} {v : Value} {wr wr' : World} (h : FrI w p l s t out v wr) (hu : Upto [p] wr wr') (hR : RdAt wr' p l t') (ha : Adv l t t') : FrI w p l s t' out v wr' := by
  have h1 := h.ne
  exact ⟨hR, h.up.trans_same hu, h.adv.trans ha, ownsRow_upto h.row hu (fun g hg => by have := h.own g hg; simp; omega), h.own, h.ne⟩
theorem FrI.set {w : World} {p B : Nat} {l : List Tok} {s t : PS} {out : List (List UInt8 × Int)} {v : Value} {wr wr' : World} (h : FrI w p l s t out v wr) (hu : Upto [B] wr wr') (hB : p < B ∧ w.heap.size ≤ B) (hne : ∀ g, v.ownBlock = some g → g ≠ B) : FrI w p l s t out v wr' :=
  ⟨h.rd.above hu (fun k hk => by simp at hk; omega), h.up.trans hu (fun k hk => Or.inr (by simp at hk; omega)), h.adv, ownsRow_upto h.row hu (fun g hg => by simpa using hne g hg), h.own, h.ne⟩
theorem identR_er {l : List Tok} {s : PS} (h : (identR l s).2.er = 0) : s.er = 0 ∧ (tkAt l s).kind = 1 := by
  unfold identR at h
  by_cases hk : (tkAt l s).kind = 1
  · refine ⟨?_, hk⟩
    simp only [if_pos hk] at h
    by_cases h0 : s.er = 0
    · exact h0
    · simp only [if_neg h0] at h
      exact absurd h h0
  · simp only [if_neg hk, if_neg (wrongF_pos (by decide : (3 : Nat) ≠ 0) s)] at h
    exact absurd h (wrongF_pos (by decide) s)
theorem FrI.app {w : World} {p : Nat} {l : List Tok} {s t : PS} {out : List (List UInt8 × Int)} {v : Value} {wr w5 : World} {x : List UInt8 × Int} {b' : Option Addr} {c' : Nat} {o : Obj} (h : FrI w p l s t out v wr)
    (ho : w5.ownsRow 0 86 2 (.slice b' (out.length + 1) c') (out.length + 1) (out.flatMap varC ++ varC x)) (hu : Upto v.ownBlock.toList (wr.alloc o) w5) (hw : ∀ g, (Value.slice b' (out.length + 1) c').ownBlock = some g → v.ownBlock = some g ∨ (wr.alloc o).heap.size ≤ g) :
    FrI w p l s t (out ++ [x]) (.slice b' (out.length + 1) c') w5 := by
  have hua : Upto [] wr (wr.alloc o) := (Upto.refl [] wr).alloc _
  have hp := h.ne
  have hus := h.up.size
  have hvs : ∀ g ∈ v.ownBlock.toList, w.heap.size ≤ g := fun g hm => h.own g (Option.mem_toList.1 hm)
  refine ⟨(h.rd.ext hua).above hu (fun k hk => by have := hvs k hk; omega), (h.up.trans_ext hua).trans hu (fun k hk => Or.inr (hvs k hk)), h.adv, ?_, fun g hg => ?_, hp⟩
  · rw [List.length_append, List.flatMap_append]
    simpa using ho
  · rcases hw g hg with h1 | h1
    · exact h.own g h1
    · simp at h1; omega
def VarsV (w : World) (P : Nat → Prop) (v : Value) (out : List (List UInt8 × Int)) : Prop := SlP w P v out.length (out.flatMap varC)
def FrPost (w : World) (p : Nat) (l : List Tok) (s : PS) (r : List (List UInt8 × Int)) (s' : PS) (e : Ending) (w' : World) : Prop :=
  ∃ v, e = .returned v ∧ VarsV w' (New w) v r ∧ RdAt w' p l s' ∧ Upto [p] w w' ∧ Adv l s s'
theorem slP_rowN {w : World} {P : Nat → Prop} {e : TypeId} {z : Nat} {v : Value} {n : Nat} {xs : List Value} (h : w.ownsRow 0 e z v n xs) (hP : ∀ g, v.ownBlock = some g → P g) : SlP w P v n xs := by
  rcases h.2 with ⟨rfl, rfl⟩ | ⟨g, cap, cur, rfl, _, hh, _, _, _, ht⟩
  · exact Or.inl ⟨rfl, List.eq_nil_of_length_eq_zero (by simpa using h.1), none, 0, rfl⟩
  · refine Or.inr ⟨g, 0, cap, rfl, ⟨hP g rfl, _, _, _, hh⟩, ?_⟩
    intro j u hj
    rw [cell_of hh, Nat.zero_add]
    rw [← ht, List.getElem?_take] at hj
    split at hj
    · simpa using hj
    · cases hj
theorem FrI.post {w : World} {p : Nat} {l : List Tok} {s t : PS} {out : List (List UInt8 × Int)} {v : Value} {wr : World} (h : FrI w p l s t out v wr) : FrPost w p l s out t (.returned v) wr := ⟨v, rfl, slP_rowN h.row (fun g hg => h.own g hg), h.rd, h.up, h.adv⟩
theorem info92 : (Tryz.prog.info? 86).map (fun i => (i.zero, i.size, i.bytes)) = some (some (.agg #[.string ⟨#[]⟩, .int .i64 0]), 2, 24) := by kernel_rfl
theorem info92' : ∃ i, Tryz.prog.info? 86 = some i ∧ i.zero = some (.agg #[.string ⟨#[]⟩, .int .i64 0]) ∧ i.size = 2 ∧ i.bytes = 24 := by
  have h := info92
  cases hi : Tryz.prog.info? 86 with
  | none => rw [hi] at h; cases h
  | some i =>
    rw [hi] at h
    simp only [Option.map_some, Option.some.injEq, Prod.mk.injEq] at h
    exact ⟨i, rfl, h.1, h.2.1, h.2.2⟩
theorem two_at {w : World} {g : Nat} {v0 v1 : Value} {t : TypeId} {z : Nat × Nat} (h : w.heap[g]? = some (.cells #[v0, v1] t z)) : ∀ (j : Nat) u, [v0, v1][j]? = some u → w.cell? ((⟨g, 0, none⟩ : Addr).add j) = some u := by
  intro j u hj
  rw [Addr.add_lit, Nat.zero_add, cell_of h]
  simpa using hj
set_option maxRecDepth 100000 in
set_option maxHeartbeats 12800000 in
theorem free_calls (w : World) (p : Nat) (l : List Tok) (s s' : PS) (r : List (List UInt8 × Int)) (hx : Cx w p l) (h : RdAt w p l s) (he : freeP l s = some (r, s')) :
    Calls Tryz.prog 68 #[.pointer (some ⟨p, 0, none⟩)] w (FrPost w p l s r s') := by
  have hlen := hx.len
  have hin := h.inb
  have HF : Hid (Fin l) := Lib.hid h.fin
  have HX := Lib.hid hx
  have hp := h.lt
  have HC := Lib.hid (takes_calls w p l s [102, 105, 110, 100] h hlen)
  unfold freeP at he
  cases hv : isF l [102, 105, 110, 100] s with
  | false =>
    rw [hv] at HC he
    have HT : Hid ((takesF l [102, 105, 110, 100] s).2 = s) := Lib.hid (by unfold takesF; rw [hv]; rfl)
    simp at he
    obtain ⟨rfl, rfl⟩ := he
    clear hv hx h
    go_enter Tryz.func68, Tryz.ntmps68
    go_wp2_with fail
    refine HC.out.mono ?_
    rintro e w1 ⟨rfl, hR1, hu1⟩
    rw [HT.out] at hR1
    have HP := Lib.hid (show FrPost w p l s [] s (.returned (.slice none 0 0)) w1 from ⟨_, rfl, Or.inl ⟨rfl, rfl, none, 0, rfl⟩, hR1, hu1, Adv.refl hin⟩)
    clear hR1 hu1
    go_wp2_with fail
    go_ret
    exact HP.out
  | true =>
    rw [hv] at HC he
    simp only [if_true] at he
    have HT : Hid ((takesF l [102, 105, 110, 100] s).2 = stepF s) := Lib.hid (by unfold takesF; rw [if_pos hv])
    have HA := Lib.hid (Adv.step HF.out hin (isF_ne hv))
    have HE := Lib.hid he
    obtain ⟨i0, hi0, hz0, hz1, hz2⟩ := info92'
    clear hv hx h he
    go_enter Tryz.func68, Tryz.ntmps68
    go_wp2_with fail
    refine HC.out.mono ?_
    rintro e w1 ⟨rfl, hR1, hu1⟩
    rw [HT.out] at hR1
    have HL0 : Hid (∃ k out t v, freeLoop l k out t = some (r, s') ∧ v = .slice none 0 0 ∧ FrI w p l s t out v w1 ∧ out.length ≤ 8) := Lib.hid ⟨_, [], stepF s, _, HE.out, rfl, ⟨hR1, hu1, HA.out, World.ownsRow_nil _ _ _ _, (fun g hg => by cases hg), hp⟩, by simp⟩
    clear hR1 hu1 HC HT HE HA
    go_wp2_with fail
    go_loopw [3] (fun v3 wr => Hid (∃ k out t v, freeLoop l k out t = some (r, s') ∧ v = v3 ∧ FrI w p l s t out v wr ∧ out.length ≤ 8)) (fun _ wr => l.length - nxOf wr p)
    case atStart => exact HL0.out.elim fun k hk => hk.elim fun out ho => ho.elim fun t ht => ht.elim fun v hv => Lib.hid ⟨k, out, t, v, hv.1, hv.2.1, hv.2.2⟩
    case round =>
      obtain ⟨k, out, t, v, hl, rfl, hI, h8⟩ := hrel.out
      obtain ⟨va, vc, rfl, -⟩ := ownsRow_len hI.row
      clear hrel HL0
      cases k with
      | zero => unfold freeLoop at hl; cases hl
      | succ k =>
      unfold freeLoop at hl
      have HI := Lib.hid hI
      have HNX := Lib.hid hI.rd.nx
      obtain ⟨⟨vr, hb, -, -⟩, -, -⟩ := id hI.rd
      have b2 := cell_of hb 2
      unfold rdC at b2
      simp only [List.getElem?_toArray, List.getElem?_cons_zero, List.getElem?_cons_succ] at b2
      clear hb
      by_cases h0 : t.er = 0
      · have k0 : ((t.er : Int) == 0) = true := by simp [h0]
        rw [if_pos h0] at hl
        simp only at hl
        have HS := Lib.hid (sort_calls wr p l t (HX.out.upto hI.up) hI.rd)
        have hx8 : (0 : Int) ≤ out.length := by omega
        have H8 := Lib.hid h8
        obtain ⟨tk, tx, tv, tl, tc, hT⟩ : ∃ tk tx tv tl tc, tkAt l (sortP l t).2 = ⟨tk, tx, tv, tl, tc⟩ := ⟨_, _, _, _, _, rfl⟩
        have HTK := Lib.hid hT
        rw [hT] at hl
        simp only at hl
        clear hI hT
        by_cases h1 : tk = 1
        · have k1 : ((tk : Int) == 1) = true := by simp [h1]
          rw [if_pos h1] at hl
          by_cases h2 : out.length = 8
          · have k2 : ((out.length : Int) == 8) = true := by simp [h2]
            rw [if_pos h2] at hl
            have HL := Lib.hid hl
            clear hl h0 h1 h2
            go_wp2_with fail
            refine HS.out.mono ?_
            rintro e w2 ⟨rfl, hR2, hu2⟩
            have hI2 := HI.out.go hu2 hR2 (sortP_adv HF.out HI.out.rd.inb)
            have hua := (Upto.refl [] w2).alloc (.cells #[.string ⟨#[]⟩, .int .i64 (sortP l t).1] 86)
            have HI2 := Lib.hid (hI2.go (hua.mono (by simp)) (hR2.ext hua) (Adv.refl hI2.rd.inb))
            have HV2 : Hid ((w2.alloc (.cells #[.string ⟨#[]⟩, .int .i64 (sortP l t).1] 86)).heap[w2.heap.size]? = some (.cells #[.string ⟨#[]⟩, .int .i64 (sortP l t).1] 86 (0, 0))) := Lib.hid (new_at _ _)
            have HUW2 : Hid (w.heap.size ≤ w2.heap.size) := Lib.hid hI2.up.size
            have HPV : Hid (p < w2.heap.size) := Lib.hid (by have := hI2.up.size; have := hI2.ne; omega)
            have HOWN : Hid (∀ g, (Value.slice va out.length vc).ownBlock = some g → g ≠ w2.heap.size) := Lib.hid (fun g hg => by
              obtain ⟨cur, hh⟩ := ownsRow_block hI2.row hg
              have := lt_of_heap hh
              omega)
            have HSA := Lib.hid (sortP_adv HF.out HI.out.rd.inb)
            have HN := Lib.hid (next_calls (w2.alloc (.cells #[.string ⟨#[]⟩, .int .i64 (sortP l t).1] 86)) p l (sortP l t).2 HI2.out.rd)
            clear hR2 hu2 hI2 hua HS b2
            go_wp2_with fail
            refine HN.out.mono ?_
            rintro e w3 ⟨rfl, hu3⟩
            rw [HTK.out]
            unfold tkA
            have hub := (Upto.refl [] w3).alloc (.cells #[.int .i64 tk, .string ⟨tx.toArray⟩, .int .i64 tv, .int .i64 tl, .int .i64 tc] 83)
            have HI3 := Lib.hid ((HI2.out.go (hu3.mono (by simp)) (HI2.out.rd.ext hu3) (Adv.refl HI2.out.rd.inb)).go (hub.mono (by simp)) ((HI2.out.rd.ext hu3).ext hub) (Adv.refl HI2.out.rd.inb))
            have HT3 : Hid ((w3.alloc (.cells #[.int .i64 tk, .string ⟨tx.toArray⟩, .int .i64 tv, .int .i64 tl, .int .i64 tc] 83)).heap[w3.heap.size]? = some (.cells #[.int .i64 tk, .string ⟨tx.toArray⟩, .int .i64 tv, .int .i64 tl, .int .i64 tc] 83 (0, 0))) := Lib.hid (new_at _ _)
            have HV3 := Lib.hid (hub.at (hu3.at HV2.out (by simp)) (by simp))
            clear hu3 hub HN HV2
            go_wp2_with fail
            refine (wrong_calls _ p 8 l (sortP l t).2 HI3.out.rd).mono ?_
            rintro e w4 ⟨rfl, hR4, hu4⟩
            have HI4 := Lib.hid (HI3.out.go hu4 hR4 (Adv.wrong HI3.out.rd.inb 8))
            have HV4 := Lib.hid (hu4.at HV3.out (by have := HPV.out; simp; omega))
            clear hR4 hu4
            go_wp2_with fail
            refine (name_calls _ p l (wrongF 8 (sortP l t).2) HI4.out.rd hlen).mono ?_
            rintro e w5 ⟨rfl, hR5, hu5⟩
            have hI5 := HI4.out.go hu5 hR5 (identR_adv HF.out HI4.out.rd.inb).1
            have hv5 := hu5.at HV4.out (by have := HPV.out; simp; omega)
            obtain ⟨ca0, ca1⟩ := cells2 hv5
            obtain ⟨fa0, fa1⟩ := frees2 hv5
            have hs6 := (Upto.refl [w2.heap.size] w5).setCell (p := ⟨w2.heap.size, 0, none⟩) (Or.inl (by simp)) (.string ⟨(identR l (wrongF 8 (sortP l t).2)).1.toArray⟩)
            have hv6 := set_same hv5 0 (.string ⟨(identR l (wrongF 8 (sortP l t).2)).1.toArray⟩)
            simp only [List.setIfInBounds_toArray, List.set_cons_zero] at hv6
            obtain ⟨cb0, cb1⟩ := cells2 hv6
            obtain ⟨fb0, fb1⟩ := frees2 hv6
            have HI6 := Lib.hid (hI5.set hs6 (by have h1 := HPV.out; have h2 := hI5.ne; have h3 := HUW2.out; omega) HOWN.out)
            have hnx : ((w5.setCell ⟨w2.heap.size, 0, none⟩ (.string ⟨(identR l (wrongF 8 (sortP l t).2)).1.toArray⟩)).alloc (.cells #[.string ⟨(identR l (wrongF 8 (sortP l t).2)).1.toArray⟩, .int .i64 (sortP l t).1] 86)).heap[w5.heap.size]? = some (.cells #[.string ⟨(identR l (wrongF 8 (sortP l t).2)).1.toArray⟩, .int .i64 (sortP l t).1] 86 (0, 0)) := by
              have := new_at (w5.setCell ⟨w2.heap.size, 0, none⟩ (.string ⟨(identR l (wrongF 8 (sortP l t).2)).1.toArray⟩)) (.cells #[.string ⟨(identR l (wrongF 8 (sortP l t).2)).1.toArray⟩, .int .i64 (sortP l t).1] 86)
              simpa [World.setCell] using this
            have HNX6 := Lib.hid hnx
            have h8b := H8.out
            clear hR5 hu5 hI5 hv5 hs6 hv6 hnx
            go_wp2_with (at_builtin
                         refine wpList_app _ rfl (.tmp 37) (.tmp 39) 46 rfl 86 i0 (.agg #[.string ⟨#[]⟩, .int .i64 0]) 2 24 Tryz.underlying46 hi0 hz0 hz1 hz2 rfl (by decide) (.slice va out.length vc) out.length (out.flatMap varC) rfl (HI6.out.row.alloc _) ⟨w5.heap.size, 0, none⟩ 1 1 [.string ⟨(identR l (wrongF 8 (sortP l t).2)).1.toArray⟩, .int .i64 (sortP l t).1] rfl rfl (two_at HNX6.out) (by simp [Value.oneCell']) (by unfold maxLen; omega) (by omega) ?_
                         intro b7 c7 w7 ho7 hu7 hw7)
            have HI7 := Lib.hid (FrI.app (x := ((identR l (wrongF 8 (sortP l t).2)).1, (sortP l t).1)) HI6.out ho7 hu7 hw7)
            clear ho7 hu7 hw7
            cases hc : isF l [44] (identR l (wrongF 8 (sortP l t).2)).2 with
            | true =>
              have HC := Lib.hid (takes_calls w7 p l (identR l (wrongF 8 (sortP l t).2)).2 [44] HI7.out.rd hlen)
              rw [hc] at HC
              have hl := HL.out
              rw [hc] at hl
              simp only [if_true] at hl
              have HT : Hid ((takesF l [44] (identR l (wrongF 8 (sortP l t).2)).2).2 = stepF (identR l (wrongF 8 (sortP l t).2)).2) := Lib.hid (by unfold takesF; rw [if_pos hc])
              have HA := Lib.hid (Adv.step HF.out HI7.out.rd.inb (isF_ne hc))
              have HID := Lib.hid ((identR_adv HF.out HI4.out.rd.inb).2 (isF_er hc))
              have H7 : Hid (out.length ≤ 7) := Lib.hid (by
                have he0 := identR_er (isF_er hc)
                exact absurd he0.1 (wrongF_pos (by decide) _))
              have HLL := Lib.hid hl
              clear hc hl
              refine HC.out.mono ?_
              rintro e w8 ⟨rfl, hR8, hu8⟩
              rw [HT.out] at hR8
              have HI8 := Lib.hid (HI7.out.go hu8 hR8 HA.out)
              clear hR8 hu8
              go_wp2_with fail
              refine ⟨Lib.hid ⟨k, out ++ [((identR l (wrongF 8 (sortP l t).2)).1, (sortP l t).1)], stepF (identR l (wrongF 8 (sortP l t).2)).2, _, HLL.out, rfl, HI8.out, by have := H7.out; simp; omega⟩, ?_⟩
              have q1 := HI8.out.rd.nx
              have q2 := HNX.out
              have q3 := HID.out
              have q4 := HI8.out.rd.inb
              have q5 : (stepF (identR l (wrongF 8 (sortP l t).2)).2).nx = (identR l (wrongF 8 (sortP l t).2)).2.nx + 1 := rfl
              have q6 := HSA.out.le
              have q7 := wrongF_nx 8 (sortP l t).2
              rw [q1, q2]
              omega
            | false =>
              have HC := Lib.hid (takes_calls w7 p l (identR l (wrongF 8 (sortP l t).2)).2 [44] HI7.out.rd hlen)
              rw [hc] at HC
              have hl := HL.out
              rw [hc] at hl
              simp only [Bool.false_eq_true, if_false, Option.some.injEq, Prod.mk.injEq] at hl
              have HT : Hid ((takesF l [44] (identR l (wrongF 8 (sortP l t).2)).2).2 = (identR l (wrongF 8 (sortP l t).2)).2) := Lib.hid (by unfold takesF; rw [hc]; rfl)
              obtain ⟨rfl, rfl⟩ := hl
              clear hc
              refine HC.out.mono ?_
              rintro e w8 ⟨rfl, hR8, hu8⟩
              rw [HT.out] at hR8
              have HI8 := Lib.hid (HI7.out.go hu8 hR8 (Adv.refl HI7.out.rd.inb))
              clear hR8 hu8
              go_wp2_with fail
              refine (need_calls w8 p l _ [58] HI8.out.rd hlen).mono ?_
              rintro e w9 ⟨rfl, hR9, hu9⟩
              have HP := Lib.hid (HI8.out.go hu9 hR9 (needF_adv HF.out HI8.out.rd.inb)).post
              clear hR9 hu9
              go_wp2_with fail
              go_ret
              exact HP.out
          · have k2 : ((out.length : Int) == 8) = false := by rw [beq_eq_false_iff_ne]; omega
            rw [if_neg h2] at hl
            cases ha : (out.any fun o => decide (o.1 = tx)) with
            | true =>
              simp only [ha, if_true] at hl
              have HL := Lib.hid hl
              clear hl h0 h1
              go_wp2_with fail
              refine HS.out.mono ?_
              rintro e w2 ⟨rfl, hR2, hu2⟩
              have hI2 := HI.out.go hu2 hR2 (sortP_adv HF.out HI.out.rd.inb)
              have hua := (Upto.refl [] w2).alloc (.cells #[.string ⟨#[]⟩, .int .i64 (sortP l t).1] 86)
              have HI2 := Lib.hid (hI2.go (hua.mono (by simp)) (hR2.ext hua) (Adv.refl hI2.rd.inb))
              have HV2 : Hid ((w2.alloc (.cells #[.string ⟨#[]⟩, .int .i64 (sortP l t).1] 86)).heap[w2.heap.size]? = some (.cells #[.string ⟨#[]⟩, .int .i64 (sortP l t).1] 86 (0, 0))) := Lib.hid (new_at _ _)
              have HUW2 : Hid (w.heap.size ≤ w2.heap.size) := Lib.hid hI2.up.size
              have HPV : Hid (p < w2.heap.size) := Lib.hid (by have := hI2.up.size; have := hI2.ne; omega)
              have HOWN : Hid (∀ g, (Value.slice va out.length vc).ownBlock = some g → g ≠ w2.heap.size) := Lib.hid (fun g hg => by
                obtain ⟨cur, hh⟩ := ownsRow_block hI2.row hg
                have := lt_of_heap hh
                omega)
              have HSA := Lib.hid (sortP_adv HF.out HI.out.rd.inb)
              have HN := Lib.hid (next_calls (w2.alloc (.cells #[.string ⟨#[]⟩, .int .i64 (sortP l t).1] 86)) p l (sortP l t).2 HI2.out.rd)
              clear hR2 hu2 hI2 hua HS b2
              go_wp2_with fail
              refine HN.out.mono ?_
              rintro e w3 ⟨rfl, hu3⟩
              rw [HTK.out]
              unfold tkA
              have hub := (Upto.refl [] w3).alloc (.cells #[.int .i64 tk, .string ⟨tx.toArray⟩, .int .i64 tv, .int .i64 tl, .int .i64 tc] 83)
              have HI3 := Lib.hid ((HI2.out.go (hu3.mono (by simp)) (HI2.out.rd.ext hu3) (Adv.refl HI2.out.rd.inb)).go (hub.mono (by simp)) ((HI2.out.rd.ext hu3).ext hub) (Adv.refl HI2.out.rd.inb))
              have HT3 : Hid ((w3.alloc (.cells #[.int .i64 tk, .string ⟨tx.toArray⟩, .int .i64 tv, .int .i64 tl, .int .i64 tc] 83)).heap[w3.heap.size]? = some (.cells #[.int .i64 tk, .string ⟨tx.toArray⟩, .int .i64 tv, .int .i64 tl, .int .i64 tc] 83 (0, 0))) := Lib.hid (new_at _ _)
              have HV3 := Lib.hid (hub.at (hu3.at HV2.out (by simp)) (by simp))
              clear hu3 hub HN HV2
              have HCT := Lib.hid (contains_calls out tx tk tv tl tc w3.heap.size _ _ (by have := H8.out; omega) HI3.out.row HT3.out)
              rw [ha] at HCT
              clear ha
              go_wp2_with fail
              refine HCT.out.mono ?_
              rintro e w3' ⟨rfl, hu3'⟩
              have HI3' := Lib.hid (HI3.out.go (hu3'.mono (by simp)) (HI3.out.rd.ext hu3') (Adv.refl HI3.out.rd.inb))
              have HV3' := Lib.hid (hu3'.at HV3.out (by simp))
              clear hu3'
              go_wp2_with fail
              refine (wrong_calls _ p 7 l (sortP l t).2 HI3'.out.rd).mono ?_
              rintro e w4 ⟨rfl, hR4, hu4⟩
              have HI4 := Lib.hid (HI3'.out.go hu4 hR4 (Adv.wrong HI3'.out.rd.inb 7))
              have HV4 := Lib.hid (hu4.at HV3'.out (by have := HPV.out; simp; omega))
              clear hR4 hu4
              go_wp2_with fail
              refine (name_calls _ p l (wrongF 7 (sortP l t).2) HI4.out.rd hlen).mono ?_
              rintro e w5 ⟨rfl, hR5, hu5⟩
              have hI5 := HI4.out.go hu5 hR5 (identR_adv HF.out HI4.out.rd.inb).1
              have hv5 := hu5.at HV4.out (by have := HPV.out; simp; omega)
              obtain ⟨ca0, ca1⟩ := cells2 hv5
              obtain ⟨fa0, fa1⟩ := frees2 hv5
              have hs6 := (Upto.refl [w2.heap.size] w5).setCell (p := ⟨w2.heap.size, 0, none⟩) (Or.inl (by simp)) (.string ⟨(identR l (wrongF 7 (sortP l t).2)).1.toArray⟩)
              have hv6 := set_same hv5 0 (.string ⟨(identR l (wrongF 7 (sortP l t).2)).1.toArray⟩)
              simp only [List.setIfInBounds_toArray, List.set_cons_zero] at hv6
              obtain ⟨cb0, cb1⟩ := cells2 hv6
              obtain ⟨fb0, fb1⟩ := frees2 hv6
              have HI6 := Lib.hid (hI5.set hs6 (by have h1 := HPV.out; have h2 := hI5.ne; have h3 := HUW2.out; omega) HOWN.out)
              have hnx : ((w5.setCell ⟨w2.heap.size, 0, none⟩ (.string ⟨(identR l (wrongF 7 (sortP l t).2)).1.toArray⟩)).alloc (.cells #[.string ⟨(identR l (wrongF 7 (sortP l t).2)).1.toArray⟩, .int .i64 (sortP l t).1] 86)).heap[w5.heap.size]? = some (.cells #[.string ⟨(identR l (wrongF 7 (sortP l t).2)).1.toArray⟩, .int .i64 (sortP l t).1] 86 (0, 0)) := by
                have := new_at (w5.setCell ⟨w2.heap.size, 0, none⟩ (.string ⟨(identR l (wrongF 7 (sortP l t).2)).1.toArray⟩)) (.cells #[.string ⟨(identR l (wrongF 7 (sortP l t).2)).1.toArray⟩, .int .i64 (sortP l t).1] 86)
                simpa [World.setCell] using this
              have HNX6 := Lib.hid hnx
              have h8b := H8.out
              clear hR5 hu5 hI5 hv5 hs6 hv6 hnx
              go_wp2_with (at_builtin
                           refine wpList_app _ rfl (.tmp 37) (.tmp 39) 46 rfl 86 i0 (.agg #[.string ⟨#[]⟩, .int .i64 0]) 2 24 Tryz.underlying46 hi0 hz0 hz1 hz2 rfl (by decide) (.slice va out.length vc) out.length (out.flatMap varC) rfl (HI6.out.row.alloc _) ⟨w5.heap.size, 0, none⟩ 1 1 [.string ⟨(identR l (wrongF 7 (sortP l t).2)).1.toArray⟩, .int .i64 (sortP l t).1] rfl rfl (two_at HNX6.out) (by simp [Value.oneCell']) (by unfold maxLen; omega) (by omega) ?_
                           intro b7 c7 w7 ho7 hu7 hw7)
              have HI7 := Lib.hid (FrI.app (x := ((identR l (wrongF 7 (sortP l t).2)).1, (sortP l t).1)) HI6.out ho7 hu7 hw7)
              clear ho7 hu7 hw7
              cases hc : isF l [44] (identR l (wrongF 7 (sortP l t).2)).2 with
              | true =>
                have HC := Lib.hid (takes_calls w7 p l (identR l (wrongF 7 (sortP l t).2)).2 [44] HI7.out.rd hlen)
                rw [hc] at HC
                have hl := HL.out
                rw [hc] at hl
                simp only [if_true] at hl
                have HT : Hid ((takesF l [44] (identR l (wrongF 7 (sortP l t).2)).2).2 = stepF (identR l (wrongF 7 (sortP l t).2)).2) := Lib.hid (by unfold takesF; rw [if_pos hc])
                have HA := Lib.hid (Adv.step HF.out HI7.out.rd.inb (isF_ne hc))
                have HID := Lib.hid ((identR_adv HF.out HI4.out.rd.inb).2 (isF_er hc))
                have H7 : Hid (out.length ≤ 7) := Lib.hid (by
                  have he0 := identR_er (isF_er hc)
                  have := H8.out; omega)
                have HLL := Lib.hid hl
                clear hc hl
                refine HC.out.mono ?_
                rintro e w8 ⟨rfl, hR8, hu8⟩
                rw [HT.out] at hR8
                have HI8 := Lib.hid (HI7.out.go hu8 hR8 HA.out)
                clear hR8 hu8
                go_wp2_with fail
                refine ⟨Lib.hid ⟨k, out ++ [((identR l (wrongF 7 (sortP l t).2)).1, (sortP l t).1)], stepF (identR l (wrongF 7 (sortP l t).2)).2, _, HLL.out, rfl, HI8.out, by have := H7.out; simp; omega⟩, ?_⟩
                have q1 := HI8.out.rd.nx
                have q2 := HNX.out
                have q3 := HID.out
                have q4 := HI8.out.rd.inb
                have q5 : (stepF (identR l (wrongF 7 (sortP l t).2)).2).nx = (identR l (wrongF 7 (sortP l t).2)).2.nx + 1 := rfl
                have q6 := HSA.out.le
                have q7 := wrongF_nx 7 (sortP l t).2
                rw [q1, q2]
                omega
              | false =>
                have HC := Lib.hid (takes_calls w7 p l (identR l (wrongF 7 (sortP l t).2)).2 [44] HI7.out.rd hlen)
                rw [hc] at HC
                have hl := HL.out
                rw [hc] at hl
                simp only [Bool.false_eq_true, if_false, Option.some.injEq, Prod.mk.injEq] at hl
                have HT : Hid ((takesF l [44] (identR l (wrongF 7 (sortP l t).2)).2).2 = (identR l (wrongF 7 (sortP l t).2)).2) := Lib.hid (by unfold takesF; rw [hc]; rfl)
                obtain ⟨rfl, rfl⟩ := hl
                clear hc
                refine HC.out.mono ?_
                rintro e w8 ⟨rfl, hR8, hu8⟩
                rw [HT.out] at hR8
                have HI8 := Lib.hid (HI7.out.go hu8 hR8 (Adv.refl HI7.out.rd.inb))
                clear hR8 hu8
                go_wp2_with fail
                refine (need_calls w8 p l _ [58] HI8.out.rd hlen).mono ?_
                rintro e w9 ⟨rfl, hR9, hu9⟩
                have HP := Lib.hid (HI8.out.go hu9 hR9 (needF_adv HF.out HI8.out.rd.inb)).post
                clear hR9 hu9
                go_wp2_with fail
                go_ret
                exact HP.out
            | false =>
              simp only [ha, Bool.false_eq_true, if_false] at hl
              have HL := Lib.hid hl
              clear hl h0 h1
              go_wp2_with fail
              refine HS.out.mono ?_
              rintro e w2 ⟨rfl, hR2, hu2⟩
              have hI2 := HI.out.go hu2 hR2 (sortP_adv HF.out HI.out.rd.inb)
              have hua := (Upto.refl [] w2).alloc (.cells #[.string ⟨#[]⟩, .int .i64 (sortP l t).1] 86)
              have HI2 := Lib.hid (hI2.go (hua.mono (by simp)) (hR2.ext hua) (Adv.refl hI2.rd.inb))
              have HV2 : Hid ((w2.alloc (.cells #[.string ⟨#[]⟩, .int .i64 (sortP l t).1] 86)).heap[w2.heap.size]? = some (.cells #[.string ⟨#[]⟩, .int .i64 (sortP l t).1] 86 (0, 0))) := Lib.hid (new_at _ _)
              have HUW2 : Hid (w.heap.size ≤ w2.heap.size) := Lib.hid hI2.up.size
              have HPV : Hid (p < w2.heap.size) := Lib.hid (by have := hI2.up.size; have := hI2.ne; omega)
              have HOWN : Hid (∀ g, (Value.slice va out.length vc).ownBlock = some g → g ≠ w2.heap.size) := Lib.hid (fun g hg => by
                obtain ⟨cur, hh⟩ := ownsRow_block hI2.row hg
                have := lt_of_heap hh
                omega)
              have HSA := Lib.hid (sortP_adv HF.out HI.out.rd.inb)
              have HN := Lib.hid (next_calls (w2.alloc (.cells #[.string ⟨#[]⟩, .int .i64 (sortP l t).1] 86)) p l (sortP l t).2 HI2.out.rd)
              clear hR2 hu2 hI2 hua HS b2
              go_wp2_with fail
              refine HN.out.mono ?_
              rintro e w3 ⟨rfl, hu3⟩
              rw [HTK.out]
              unfold tkA
              have hub := (Upto.refl [] w3).alloc (.cells #[.int .i64 tk, .string ⟨tx.toArray⟩, .int .i64 tv, .int .i64 tl, .int .i64 tc] 83)
              have HI3 := Lib.hid ((HI2.out.go (hu3.mono (by simp)) (HI2.out.rd.ext hu3) (Adv.refl HI2.out.rd.inb)).go (hub.mono (by simp)) ((HI2.out.rd.ext hu3).ext hub) (Adv.refl HI2.out.rd.inb))
              have HT3 : Hid ((w3.alloc (.cells #[.int .i64 tk, .string ⟨tx.toArray⟩, .int .i64 tv, .int .i64 tl, .int .i64 tc] 83)).heap[w3.heap.size]? = some (.cells #[.int .i64 tk, .string ⟨tx.toArray⟩, .int .i64 tv, .int .i64 tl, .int .i64 tc] 83 (0, 0))) := Lib.hid (new_at _ _)
              have HV3 := Lib.hid (hub.at (hu3.at HV2.out (by simp)) (by simp))
              clear hu3 hub HN HV2
              have HCT := Lib.hid (contains_calls out tx tk tv tl tc w3.heap.size _ _ (by have := H8.out; omega) HI3.out.row HT3.out)
              rw [ha] at HCT
              clear ha
              go_wp2_with fail
              refine HCT.out.mono ?_
              rintro e w4 ⟨rfl, hu4⟩
              have HI4 := Lib.hid (HI3.out.go (hu4.mono (by simp)) (HI3.out.rd.ext hu4) (Adv.refl HI3.out.rd.inb))
              have HV4 := Lib.hid (hu4.at HV3.out (by simp))
              clear hu4
              go_wp2_with fail
              refine (name_calls _ p l (sortP l t).2 HI4.out.rd hlen).mono ?_
              rintro e w5 ⟨rfl, hR5, hu5⟩
              have hI5 := HI4.out.go hu5 hR5 (identR_adv HF.out HI4.out.rd.inb).1
              have hv5 := hu5.at HV4.out (by have := HPV.out; simp; omega)
              obtain ⟨ca0, ca1⟩ := cells2 hv5
              obtain ⟨fa0, fa1⟩ := frees2 hv5
              have hs6 := (Upto.refl [w2.heap.size] w5).setCell (p := ⟨w2.heap.size, 0, none⟩) (Or.inl (by simp)) (.string ⟨(identR l (sortP l t).2).1.toArray⟩)
              have hv6 := set_same hv5 0 (.string ⟨(identR l (sortP l t).2).1.toArray⟩)
              simp only [List.setIfInBounds_toArray, List.set_cons_zero] at hv6
              obtain ⟨cb0, cb1⟩ := cells2 hv6
              obtain ⟨fb0, fb1⟩ := frees2 hv6
              have HI6 := Lib.hid (hI5.set hs6 (by have h1 := HPV.out; have h2 := hI5.ne; have h3 := HUW2.out; omega) HOWN.out)
              have hnx : ((w5.setCell ⟨w2.heap.size, 0, none⟩ (.string ⟨(identR l (sortP l t).2).1.toArray⟩)).alloc (.cells #[.string ⟨(identR l (sortP l t).2).1.toArray⟩, .int .i64 (sortP l t).1] 86)).heap[w5.heap.size]? = some (.cells #[.string ⟨(identR l (sortP l t).2).1.toArray⟩, .int .i64 (sortP l t).1] 86 (0, 0)) := by
                have := new_at (w5.setCell ⟨w2.heap.size, 0, none⟩ (.string ⟨(identR l (sortP l t).2).1.toArray⟩)) (.cells #[.string ⟨(identR l (sortP l t).2).1.toArray⟩, .int .i64 (sortP l t).1] 86)
                simpa [World.setCell] using this
              have HNX6 := Lib.hid hnx
              have h8b := H8.out
              clear hR5 hu5 hI5 hv5 hs6 hv6 hnx
              go_wp2_with (at_builtin
                           refine wpList_app _ rfl (.tmp 37) (.tmp 39) 46 rfl 86 i0 (.agg #[.string ⟨#[]⟩, .int .i64 0]) 2 24 Tryz.underlying46 hi0 hz0 hz1 hz2 rfl (by decide) (.slice va out.length vc) out.length (out.flatMap varC) rfl (HI6.out.row.alloc _) ⟨w5.heap.size, 0, none⟩ 1 1 [.string ⟨(identR l (sortP l t).2).1.toArray⟩, .int .i64 (sortP l t).1] rfl rfl (two_at HNX6.out) (by simp [Value.oneCell']) (by unfold maxLen; omega) (by omega) ?_
                           intro b7 c7 w7 ho7 hu7 hw7)
              have HI7 := Lib.hid (FrI.app (x := ((identR l (sortP l t).2).1, (sortP l t).1)) HI6.out ho7 hu7 hw7)
              clear ho7 hu7 hw7
              cases hc : isF l [44] (identR l (sortP l t).2).2 with
              | true =>
                have HC := Lib.hid (takes_calls w7 p l (identR l (sortP l t).2).2 [44] HI7.out.rd hlen)
                rw [hc] at HC
                have hl := HL.out
                rw [hc] at hl
                simp only [if_true] at hl
                have HT : Hid ((takesF l [44] (identR l (sortP l t).2).2).2 = stepF (identR l (sortP l t).2).2) := Lib.hid (by unfold takesF; rw [if_pos hc])
                have HA := Lib.hid (Adv.step HF.out HI7.out.rd.inb (isF_ne hc))
                have HID := Lib.hid ((identR_adv HF.out HI4.out.rd.inb).2 (isF_er hc))
                have H7 : Hid (out.length ≤ 7) := Lib.hid (by
                  have he0 := identR_er (isF_er hc)
                  have := H8.out; omega)
                have HLL := Lib.hid hl
                clear hc hl
                refine HC.out.mono ?_
                rintro e w8 ⟨rfl, hR8, hu8⟩
                rw [HT.out] at hR8
                have HI8 := Lib.hid (HI7.out.go hu8 hR8 HA.out)
                clear hR8 hu8
                go_wp2_with fail
                refine ⟨Lib.hid ⟨k, out ++ [((identR l (sortP l t).2).1, (sortP l t).1)], stepF (identR l (sortP l t).2).2, _, HLL.out, rfl, HI8.out, by have := H7.out; simp; omega⟩, ?_⟩
                have q1 := HI8.out.rd.nx
                have q2 := HNX.out
                have q3 := HID.out
                have q4 := HI8.out.rd.inb
                have q5 : (stepF (identR l (sortP l t).2).2).nx = (identR l (sortP l t).2).2.nx + 1 := rfl
                have q6 := HSA.out.le
                have q7 := (rfl : (sortP l t).2.nx = (sortP l t).2.nx)
                rw [q1, q2]
                omega
              | false =>
                have HC := Lib.hid (takes_calls w7 p l (identR l (sortP l t).2).2 [44] HI7.out.rd hlen)
                rw [hc] at HC
                have hl := HL.out
                rw [hc] at hl
                simp only [Bool.false_eq_true, if_false, Option.some.injEq, Prod.mk.injEq] at hl
                have HT : Hid ((takesF l [44] (identR l (sortP l t).2).2).2 = (identR l (sortP l t).2).2) := Lib.hid (by unfold takesF; rw [hc]; rfl)
                obtain ⟨rfl, rfl⟩ := hl
                clear hc
                refine HC.out.mono ?_
                rintro e w8 ⟨rfl, hR8, hu8⟩
                rw [HT.out] at hR8
                have HI8 := Lib.hid (HI7.out.go hu8 hR8 (Adv.refl HI7.out.rd.inb))
                clear hR8 hu8
                go_wp2_with fail
                refine (need_calls w8 p l _ [58] HI8.out.rd hlen).mono ?_
                rintro e w9 ⟨rfl, hR9, hu9⟩
                have HP := Lib.hid (HI8.out.go hu9 hR9 (needF_adv HF.out HI8.out.rd.inb)).post
                clear hR9 hu9
                go_wp2_with fail
                go_ret
                exact HP.out
        · have k1 : ((tk : Int) == 1) = false := by rw [beq_eq_false_iff_ne]; omega
          rw [if_neg h1] at hl
          have HL := Lib.hid hl
          clear hl h0
          go_wp2_with fail
          refine HS.out.mono ?_
          rintro e w2 ⟨rfl, hR2, hu2⟩
          have hI2 := HI.out.go hu2 hR2 (sortP_adv HF.out HI.out.rd.inb)
          have hua := (Upto.refl [] w2).alloc (.cells #[.string ⟨#[]⟩, .int .i64 (sortP l t).1] 86)
          have HI2 := Lib.hid (hI2.go (hua.mono (by simp)) (hR2.ext hua) (Adv.refl hI2.rd.inb))
          have HV2 : Hid ((w2.alloc (.cells #[.string ⟨#[]⟩, .int .i64 (sortP l t).1] 86)).heap[w2.heap.size]? = some (.cells #[.string ⟨#[]⟩, .int .i64 (sortP l t).1] 86 (0, 0))) := Lib.hid (new_at _ _)
          have HUW2 : Hid (w.heap.size ≤ w2.heap.size) := Lib.hid hI2.up.size
          have HPV : Hid (p < w2.heap.size) := Lib.hid (by have := hI2.up.size; have := hI2.ne; omega)
          have HOWN : Hid (∀ g, (Value.slice va out.length vc).ownBlock = some g → g ≠ w2.heap.size) := Lib.hid (fun g hg => by
            obtain ⟨cur, hh⟩ := ownsRow_block hI2.row hg
            have := lt_of_heap hh
            omega)
          have HSA := Lib.hid (sortP_adv HF.out HI.out.rd.inb)
          have HN := Lib.hid (next_calls (w2.alloc (.cells #[.string ⟨#[]⟩, .int .i64 (sortP l t).1] 86)) p l (sortP l t).2 HI2.out.rd)
          clear hR2 hu2 hI2 hua HS b2
          go_wp2_with fail
          refine HN.out.mono ?_
          rintro e w3 ⟨rfl, hu3⟩
          rw [HTK.out]
          unfold tkA
          have hub := (Upto.refl [] w3).alloc (.cells #[.int .i64 tk, .string ⟨tx.toArray⟩, .int .i64 tv, .int .i64 tl, .int .i64 tc] 83)
          have HI3 := Lib.hid ((HI2.out.go (hu3.mono (by simp)) (HI2.out.rd.ext hu3) (Adv.refl HI2.out.rd.inb)).go (hub.mono (by simp)) ((HI2.out.rd.ext hu3).ext hub) (Adv.refl HI2.out.rd.inb))
          have HT3 : Hid ((w3.alloc (.cells #[.int .i64 tk, .string ⟨tx.toArray⟩, .int .i64 tv, .int .i64 tl, .int .i64 tc] 83)).heap[w3.heap.size]? = some (.cells #[.int .i64 tk, .string ⟨tx.toArray⟩, .int .i64 tv, .int .i64 tl, .int .i64 tc] 83 (0, 0))) := Lib.hid (new_at _ _)
          have HV3 := Lib.hid (hub.at (hu3.at HV2.out (by simp)) (by simp))
          clear hu3 hub HN HV2
          obtain ⟨w4, hw4⟩ : ∃ w4, w4 = w3.alloc (.cells #[.int .i64 tk, .string ⟨tx.toArray⟩, .int .i64 tv, .int .i64 tl, .int .i64 tc] 83) := ⟨_, rfl⟩
          have HI4 := HI3
          have HV4 := HV3
          rw [← hw4] at HI4 HV4
          have HW4 := Lib.hid hw4
          clear hw4
          go_wp2_with fail
          rw [← HW4.out]
          refine (name_calls _ p l (sortP l t).2 HI4.out.rd hlen).mono ?_
          rintro e w5 ⟨rfl, hR5, hu5⟩
          have hI5 := HI4.out.go hu5 hR5 (identR_adv HF.out HI4.out.rd.inb).1
          have hv5 := hu5.at HV4.out (by have := HPV.out; simp; omega)
          obtain ⟨ca0, ca1⟩ := cells2 hv5
          obtain ⟨fa0, fa1⟩ := frees2 hv5
          have hs6 := (Upto.refl [w2.heap.size] w5).setCell (p := ⟨w2.heap.size, 0, none⟩) (Or.inl (by simp)) (.string ⟨(identR l (sortP l t).2).1.toArray⟩)
          have hv6 := set_same hv5 0 (.string ⟨(identR l (sortP l t).2).1.toArray⟩)
          simp only [List.setIfInBounds_toArray, List.set_cons_zero] at hv6
          obtain ⟨cb0, cb1⟩ := cells2 hv6
          obtain ⟨fb0, fb1⟩ := frees2 hv6
          have HI6 := Lib.hid (hI5.set hs6 (by have h1 := HPV.out; have h2 := hI5.ne; have h3 := HUW2.out; omega) HOWN.out)
          have hnx : ((w5.setCell ⟨w2.heap.size, 0, none⟩ (.string ⟨(identR l (sortP l t).2).1.toArray⟩)).alloc (.cells #[.string ⟨(identR l (sortP l t).2).1.toArray⟩, .int .i64 (sortP l t).1] 86)).heap[w5.heap.size]? = some (.cells #[.string ⟨(identR l (sortP l t).2).1.toArray⟩, .int .i64 (sortP l t).1] 86 (0, 0)) := by
            have := new_at (w5.setCell ⟨w2.heap.size, 0, none⟩ (.string ⟨(identR l (sortP l t).2).1.toArray⟩)) (.cells #[.string ⟨(identR l (sortP l t).2).1.toArray⟩, .int .i64 (sortP l t).1] 86)
            simpa [World.setCell] using this
          have HNX6 := Lib.hid hnx
          have h8b := H8.out
          clear hR5 hu5 hI5 hv5 hs6 hv6 hnx
          go_wp2_with (at_builtin
                       refine wpList_app _ rfl (.tmp 37) (.tmp 39) 46 rfl 86 i0 (.agg #[.string ⟨#[]⟩, .int .i64 0]) 2 24 Tryz.underlying46 hi0 hz0 hz1 hz2 rfl (by decide) (.slice va out.length vc) out.length (out.flatMap varC) rfl (HI6.out.row.alloc _) ⟨w5.heap.size, 0, none⟩ 1 1 [.string ⟨(identR l (sortP l t).2).1.toArray⟩, .int .i64 (sortP l t).1] rfl rfl (two_at HNX6.out) (by simp [Value.oneCell']) (by unfold maxLen; omega) (by omega) ?_
                       intro b7 c7 w7 ho7 hu7 hw7)
          have HI7 := Lib.hid (FrI.app (x := ((identR l (sortP l t).2).1, (sortP l t).1)) HI6.out ho7 hu7 hw7)
          clear ho7 hu7 hw7
          cases hc : isF l [44] (identR l (sortP l t).2).2 with
          | true =>
            have HC := Lib.hid (takes_calls w7 p l (identR l (sortP l t).2).2 [44] HI7.out.rd hlen)
            rw [hc] at HC
            have hl := HL.out
            rw [hc] at hl
            simp only [if_true] at hl
            have HT : Hid ((takesF l [44] (identR l (sortP l t).2).2).2 = stepF (identR l (sortP l t).2).2) := Lib.hid (by unfold takesF; rw [if_pos hc])
            have HA := Lib.hid (Adv.step HF.out HI7.out.rd.inb (isF_ne hc))
            have HID := Lib.hid ((identR_adv HF.out HI4.out.rd.inb).2 (isF_er hc))
            have H7 : Hid (out.length ≤ 7) := Lib.hid (by
              have he0 := identR_er (isF_er hc)
              have := he0.2; rw [HTK.out] at this; exact absurd this h1)
            have HLL := Lib.hid hl
            clear hc hl
            refine HC.out.mono ?_
            rintro e w8 ⟨rfl, hR8, hu8⟩
            rw [HT.out] at hR8
            have HI8 := Lib.hid (HI7.out.go hu8 hR8 HA.out)
            clear hR8 hu8
            go_wp2_with fail
            refine ⟨Lib.hid ⟨k, out ++ [((identR l (sortP l t).2).1, (sortP l t).1)], stepF (identR l (sortP l t).2).2, _, HLL.out, rfl, HI8.out, by have := H7.out; simp; omega⟩, ?_⟩
            have q1 := HI8.out.rd.nx
            have q2 := HNX.out
            have q3 := HID.out
            have q4 := HI8.out.rd.inb
            have q5 : (stepF (identR l (sortP l t).2).2).nx = (identR l (sortP l t).2).2.nx + 1 := rfl
            have q6 := HSA.out.le
            have q7 := (rfl : (sortP l t).2.nx = (sortP l t).2.nx)
            rw [q1, q2]
            omega
          | false =>
            have HC := Lib.hid (takes_calls w7 p l (identR l (sortP l t).2).2 [44] HI7.out.rd hlen)
            rw [hc] at HC
            have hl := HL.out
            rw [hc] at hl
            simp only [Bool.false_eq_true, if_false, Option.some.injEq, Prod.mk.injEq] at hl
            have HT : Hid ((takesF l [44] (identR l (sortP l t).2).2).2 = (identR l (sortP l t).2).2) := Lib.hid (by unfold takesF; rw [hc]; rfl)
            obtain ⟨rfl, rfl⟩ := hl
            clear hc
            refine HC.out.mono ?_
            rintro e w8 ⟨rfl, hR8, hu8⟩
            rw [HT.out] at hR8
            have HI8 := Lib.hid (HI7.out.go hu8 hR8 (Adv.refl HI7.out.rd.inb))
            clear hR8 hu8
            go_wp2_with fail
            refine (need_calls w8 p l _ [58] HI8.out.rd hlen).mono ?_
            rintro e w9 ⟨rfl, hR9, hu9⟩
            have HP := Lib.hid (HI8.out.go hu9 hR9 (needF_adv HF.out HI8.out.rd.inb)).post
            clear hR9 hu9
            go_wp2_with fail
            go_ret
            exact HP.out
      · have k0 : ((t.er : Int) == 0) = false := by rw [beq_eq_false_iff_ne]; omega
        rw [if_neg h0] at hl
        simp only [Option.some.injEq, Prod.mk.injEq] at hl
        obtain ⟨rfl, rfl⟩ := hl
        have HP := Lib.hid hI.post
        clear hI h0
        go_wp2_with fail
        go_ret
        exact HP.out
theorem SlP.get {w : World} {P : Nat → Prop} {v : Value} {n : Nat} {xs : List Value} (h : SlP w P v n xs) : ∃ a c, v = .slice a n c ∧ ∀ i u, xs[i]? = some u → ∃ g o, a = some ⟨g, o, none⟩ ∧ w.cell? ⟨g, o + i, none⟩ = some u := by
  rcases h with ⟨rfl, rfl, a, c, rfl⟩ | ⟨g, o, c, rfl, -, hc⟩
  · exact ⟨a, c, rfl, fun i u h => by simp at h⟩
  · exact ⟨_, c, rfl, fun i u h => ⟨g, o, rfl, hc i u h⟩⟩
def QnV (w : World) (P : Nat → Prop) (q : Qn) (v : Value) : Prop := ∃ vf a0 a1 a2 a3 a4 a5, v = .agg #[vf, a0, a1, a2, a3, a4, a5] ∧ VarsV w P vf q.free ∧ NdV w P q.body (.agg #[a0, a1, a2, a3, a4, a5])
theorem QnV.keep {w w' : World} {P Q : Nat → Prop} (hk : Keep w w' P Q) {q : Qn} {v : Value} (h : QnV w P q v) : QnV w' Q q v := by
  obtain ⟨vf, a0, a1, a2, a3, a4, a5, e, h1, h2⟩ := h
  exact ⟨vf, a0, a1, a2, a3, a4, a5, e, SlP.keep hk h1, NdV.keep hk _ _ h2⟩
theorem QnV.seven {w : World} {P : Nat → Prop} {q : Qn} {v : Value} (h : QnV w P q v) : ∃ (f1 : Option Addr) (f2 f3 : Nat) (op : Int) (a1 : Option Addr) (n1 c1 : Nat) (so n m : Int) (a2 : Option Addr) (n2 c2 : Nat), v = .agg #[.slice f1 f2 f3, .int .i64 op, .slice a1 n1 c1, .int .i64 so, .int .i64 n, .int .i64 m, .slice a2 n2 c2] := by
  obtain ⟨vf, a0, a1, a2, a3, a4, a5, rfl, h1, h2⟩ := h
  obtain ⟨fa, fc, rfl⟩ := h1.len
  obtain ⟨op, x1, x2, x3, so, n, m, y1, y2, y3, hs⟩ := h2.six
  simp only [Value.agg.injEq, Array.mk.injEq, List.cons.injEq, and_true] at hs
  obtain ⟨rfl, rfl, rfl, rfl, rfl, rfl⟩ := hs
  exact ⟨fa, _, fc, op, x1, x2, x3, so, n, m, y1, y2, y3, rfl⟩
def zeroQ : Value := .agg #[.slice none 0 0, .int .i64 0, .slice none 0 0, .int .i64 0, .int .i64 0, .int .i64 0, .slice none 0 0]
theorem QnV.zero (w : World) (P : Nat → Prop) : QnV w P .zero zeroQ := ⟨_, _, _, _, _, _, _, rfl, SlP.nil, NdV.zero w P⟩
def QPost (w : World) (p : Nat) (l : List Tok) (s : PS) (q : Qn) (s' : PS) (e : Ending) (w' : World) : Prop :=
  ∃ v, e = .returned v ∧ QnV w' (New w) q v ∧ RdAt w' p l s' ∧ Upto [p] w w' ∧ Adv l s s'
theorem q_store {w : World} {B : Nat} {x0 x1 x2 x3 x4 x5 x6 : Value} {T : TypeId} (h : w.heap[B]? = some (.cells #[x0, x1, x2, x3, x4, x5, x6] T (0, 0))) (a b c d e f g : Value) :
    (((((((w.setCell ⟨B, 0, none⟩ a).setCell ⟨B, 1, none⟩ b).setCell ⟨B, 2, none⟩ c).setCell ⟨B, 3, none⟩ d).setCell ⟨B, 4, none⟩ e).setCell ⟨B, 5, none⟩ f).setCell ⟨B, 6, none⟩ g).heap[B]? = some (.cells #[a, b, c, d, e, f, g] T (0, 0)) := by
  have := set_same (set_same (set_same (set_same (set_same (set_same (set_same h 0 a) 1 b) 2 c) 3 d) 4 e) 5 f) 6 g
  simpa using this
theorem q_up {S : List Nat} {v w : World} {B : Nat} (h : Upto S v w) (hB : B ∈ S ∨ v.heap.size ≤ B) (a b c d e f g : Value) : Upto S v (((((((w.setCell ⟨B, 0, none⟩ a).setCell ⟨B, 1, none⟩ b).setCell ⟨B, 2, none⟩ c).setCell ⟨B, 3, none⟩ d).setCell ⟨B, 4, none⟩ e).setCell ⟨B, 5, none⟩ f).setCell ⟨B, 6, none⟩ g) :=
  ((((((h.setCell hB _).setCell hB _).setCell hB _).setCell hB _).setCell hB _).setCell hB _).setCell hB _
theorem q_self (w : World) (B : Nat) (a b c d e f g : Value) : Upto [B] w (((((((w.setCell ⟨B, 0, none⟩ a).setCell ⟨B, 1, none⟩ b).setCell ⟨B, 2, none⟩ c).setCell ⟨B, 3, none⟩ d).setCell ⟨B, 4, none⟩ e).setCell ⟨B, 5, none⟩ f).setCell ⟨B, 6, none⟩ g) := q_up (Upto.refl _ _) (Or.inl (by simp)) ..
theorem qpost_fin {w w2 : World} {p B : Nat} {l : List Tok} {s s' : PS} {q : Qn} {P : Nat → Prop} (hB : w.heap.size ≤ B) (hp : p < B) (hu : Upto [p] w w2) (hR : RdAt w2 p l s') (ha : Adv l s s') {a b c d e f g : Value} (hf : VarsV w2 P a q.free) (hn : NdV w2 P q.body (.agg #[b, c, d, e, f, g])) (hP : ∀ b, P b → IsC w2 b → New w b ∧ b ≠ B) :
    QPost w p l s q s' (.returned (.agg #[a, b, c, d, e, f, g])) (((((((w2.setCell ⟨B, 0, none⟩ a).setCell ⟨B, 1, none⟩ b).setCell ⟨B, 2, none⟩ c).setCell ⟨B, 3, none⟩ d).setCell ⟨B, 4, none⟩ e).setCell ⟨B, 5, none⟩ f).setCell ⟨B, 6, none⟩ g) := by
  have hst := q_self w2 B a b c d e f g
  have hk : Keep w2 (((((((w2.setCell ⟨B, 0, none⟩ a).setCell ⟨B, 1, none⟩ b).setCell ⟨B, 2, none⟩ c).setCell ⟨B, 3, none⟩ d).setCell ⟨B, 4, none⟩ e).setCell ⟨B, 5, none⟩ f).setCell ⟨B, 6, none⟩ g) P (New w) := ⟨hst.size, fun x hx hl => ⟨(hP x hx hl).1, hst.block x hl.lt (by simpa using (hP x hx hl).2)⟩⟩
  exact ⟨_, rfl, ⟨_, _, _, _, _, _, _, rfl, SlP.keep hk hf, NdV.keep hk _ _ hn⟩, hR.above hst (fun k hk => by simp at hk; omega), q_up hu (Or.inr hB) .., ha⟩
set_option maxRecDepth 100000 in
set_option maxHeartbeats 6400000 in
theorem bare1_calls (w : World) (p : Nat) (l : List Tok) (htx : ∀ t ∈ l, t.text.length ≤ 65536) (s s' : PS) (q : Qn) (hx : Cx w p l) (h : RdAt w p l s) (hd : s.dp ≤ 256) (he : (wholeP l s).map (fun r => (⟨[], r.1⟩, r.2)) = some (q, s')) :
    Calls Tryz.prog 57 #[.pointer (some ⟨p, 0, none⟩)] w (QPost w p l s q s') := by
  have HF : Hid (Fin l) := Lib.hid h.fin
  have hin := h.inb
  have HpB : Hid (p < w.heap.size) := Lib.hid h.lt
  have hu0 : Upto [] w (w.alloc (.cells #[.slice none 0 0, .int .i64 0, .slice none 0 0, .int .i64 0, .int .i64 0, .int .i64 0, .slice none 0 0] 48)) := (Upto.refl [] w).alloc _
  have HR0 := Lib.hid (h.ext hu0)
  have HX0 := Lib.hid (hx.ext hu0)
  have HU0 : Hid (Upto [p] w (w.alloc (.cells #[.slice none 0 0, .int .i64 0, .slice none 0 0, .int .i64 0, .int .i64 0, .int .i64 0, .slice none 0 0] 48))) := Lib.hid (hu0.mono (by simp))
  have HNew : Hid ((w.alloc (.cells #[.slice none 0 0, .int .i64 0, .slice none 0 0, .int .i64 0, .int .i64 0, .int .i64 0, .slice none 0 0] 48)).heap[w.heap.size]? = some (.cells #[.slice none 0 0, .int .i64 0, .slice none 0 0, .int .i64 0, .int .i64 0, .int .i64 0, .slice none 0 0] 48 (0, 0))) := Lib.hid (new_at _ _)
  obtain ⟨m, hv, rfl⟩ : ∃ m, wholeP l s = some (m, s') ∧ q = ⟨[], m⟩ := by
    cases hq : wholeP l s with
    | none => rw [hq] at he; cases he
    | some r => obtain ⟨m, t⟩ := r; rw [hq] at he; simp at he; obtain ⟨rfl, rfl⟩ := he; exact ⟨m, rfl, rfl⟩
  clear hx h hu0 he
  go_enter Tryz.func57, Tryz.ntmps57
  go_wp2_with fail
  refine (whole_calls p l htx _ s m s' HX0.out HR0.out hd hv).mono ?_
  rintro e w2 ⟨vv, rfl, hn, hR2, hu2, ha⟩
  obtain ⟨oa, na1, na2, na3, sa, ma, qa, la1, la2, la3, rfl⟩ := hn.six
  have hz := hu2.at HNew.out (by have := HpB.out; simp; omega)
  obtain ⟨z0, z1, z2, z3, z4, z5, z6⟩ := cells7 hz
  obtain ⟨y0, y1, y2, y3, y4, y5, y6⟩ := frees7 hz
  have HZ := Lib.hid hz
  have HN := Lib.hid hn
  have HR2 := Lib.hid hR2
  have HU2 := Lib.hid hu2
  have HA := Lib.hid ha
  clear hn hR2 hu2 ha hz
  go_wp2_with fail
  have hst := q_store HZ.out (.slice none 0 0) (.int .i64 oa) (.slice na1 na2 na3) (.int .i64 sa) (.int .i64 ma) (.int .i64 qa) (.slice la1 la2 la3)
  obtain ⟨q0, q1, q2, q3, q4, q5, q6⟩ := cells7 hst
  exact bodyPost_ret (v := .agg #[.slice none 0 0, .int .i64 oa, .slice na1 na2 na3, .int .i64 sa, .int .i64 ma, .int .i64 qa, .slice la1 la2 la3]) (by simp [results, Tryz.results57, go_sem, q0, q1, q2, q3, q4, q5, q6]) rfl (qpost_fin (q := ⟨[], m⟩) (P := New (w.alloc (.cells #[.slice none 0 0, .int .i64 0, .slice none 0 0, .int .i64 0, .int .i64 0, .int .i64 0, .slice none 0 0] 48))) (Nat.le_refl _) HpB.out (HU0.out.trans_same HU2.out) HR2.out HA.out SlP.nil HN.out (fun b hb _ => by have h1 := HU0.out.size; have h2 := lt_of_heap HNew.out; unfold New at hb ⊢; omega))
set_option maxRecDepth 100000 in
set_option maxHeartbeats 6400000 in
theorem query1_calls (w : World) (p : Nat) (l : List Tok) (htx : ∀ t ∈ l, t.text.length ≤ 65536) (s s' : PS) (q : Qn) (hx : Cx w p l) (h : RdAt w p l s) (hd : s.dp ≤ 256) (he : ((freeP l s).bind fun r1 => (wholeP l r1.2).map fun r => ((⟨r1.1, r.1⟩ : Qn), r.2)) = some (q, s')) :
    Calls Tryz.prog 67 #[.pointer (some ⟨p, 0, none⟩)] w (QPost w p l s q s') := by
  have HF : Hid (Fin l) := Lib.hid h.fin
  have hin := h.inb
  have HpB : Hid (p < w.heap.size) := Lib.hid h.lt
  have hu0 : Upto [] w (w.alloc (.cells #[.slice none 0 0, .int .i64 0, .slice none 0 0, .int .i64 0, .int .i64 0, .int .i64 0, .slice none 0 0] 48)) := (Upto.refl [] w).alloc _
  have HR0 := Lib.hid (h.ext hu0)
  have HX0 := Lib.hid (hx.ext hu0)
  have HU0 : Hid (Upto [p] w (w.alloc (.cells #[.slice none 0 0, .int .i64 0, .slice none 0 0, .int .i64 0, .int .i64 0, .int .i64 0, .slice none 0 0] 48))) := Lib.hid (hu0.mono (by simp))
  have HNew : Hid ((w.alloc (.cells #[.slice none 0 0, .int .i64 0, .slice none 0 0, .int .i64 0, .int .i64 0, .int .i64 0, .slice none 0 0] 48)).heap[w.heap.size]? = some (.cells #[.slice none 0 0, .int .i64 0, .slice none 0 0, .int .i64 0, .int .i64 0, .int .i64 0, .slice none 0 0] 48 (0, 0))) := Lib.hid (new_at _ _)
  have hlen := hx.len
  obtain ⟨fr, t, m, hv1, hv2, rfl⟩ : ∃ fr t m, freeP l s = some (fr, t) ∧ wholeP l t = some (m, s') ∧ q = ⟨fr, m⟩ := by
    cases hq : freeP l s with
    | none => rw [hq] at he; cases he
    | some r =>
      obtain ⟨fr, t⟩ := r
      rw [hq] at he
      simp only [Option.bind_some] at he
      cases hq2 : wholeP l t with
      | none => rw [hq2] at he; cases he
      | some r2 => obtain ⟨m, t2⟩ := r2; rw [hq2] at he; simp at he; obtain ⟨rfl, rfl⟩ := he; exact ⟨fr, t, m, rfl, hq2, rfl⟩
  clear hx h hu0 he
  go_enter Tryz.func67, Tryz.ntmps67
  go_wp2_with fail
  refine (free_calls _ p l s t fr HX0.out HR0.out hv1).mono ?_
  rintro e w1 ⟨vf, rfl, hf, hR1, hu1, ha1⟩
  obtain ⟨f1, f3, rfl⟩ := hf.len
  have HFV := Lib.hid hf
  have HR1 := Lib.hid hR1
  have HU1 := Lib.hid hu1
  have HA1 := Lib.hid ha1
  clear hf hR1 hu1 ha1
  go_wp2_with fail
  refine (whole_calls p l htx w1 t m s' (HX0.out.upto HU1.out) HR1.out (by rw [HA1.out.dp]; exact hd) hv2).mono ?_
  rintro e w2 ⟨vv, rfl, hn, hR2, hu2, ha⟩
  obtain ⟨oa, na1, na2, na3, sa, ma, qa, la1, la2, la3, rfl⟩ := hn.six
  have hz := hu2.at (HU1.out.at HNew.out (by have := HpB.out; simp; omega)) (by have := HpB.out; simp; omega)
  obtain ⟨z0, z1, z2, z3, z4, z5, z6⟩ := cells7 hz
  obtain ⟨y0, y1, y2, y3, y4, y5, y6⟩ := frees7 hz
  have HZ := Lib.hid hz
  have HN := Lib.hid hn
  have HR2 := Lib.hid hR2
  have HU2 := Lib.hid hu2
  have HA := Lib.hid ha
  have HS := Lib.hid (And.intro (lt_of_heap HNew.out) (And.intro HU1.out.size HU0.out.size))
  have HF2 : Hid (VarsV w2 (New (w.alloc (.cells #[.slice none 0 0, .int .i64 0, .slice none 0 0, .int .i64 0, .int .i64 0, .int .i64 0, .slice none 0 0] 48))) (.slice f1 fr.length f3) fr) := Lib.hid (SlP.upto HFV.out hu2 (fun b hb _ => by have h1 := HS.out; have h2 := HpB.out; unfold New at hb; simp; omega))
  clear hn hR2 hu2 ha hz
  go_wp2_with fail
  have hst := q_store HZ.out (.slice f1 fr.length f3) (.int .i64 oa) (.slice na1 na2 na3) (.int .i64 sa) (.int .i64 ma) (.int .i64 qa) (.slice la1 la2 la3)
  obtain ⟨q0, q1, q2, q3, q4, q5, q6⟩ := cells7 hst
  exact bodyPost_ret (v := .agg #[.slice f1 fr.length f3, .int .i64 oa, .slice na1 na2 na3, .int .i64 sa, .int .i64 ma, .int .i64 qa, .slice la1 la2 la3]) (by simp [results, Tryz.results67, go_sem, q0, q1, q2, q3, q4, q5, q6]) rfl (qpost_fin (q := ⟨fr, m⟩) (P := New (w.alloc (.cells #[.slice none 0 0, .int .i64 0, .slice none 0 0, .int .i64 0, .int .i64 0, .int .i64 0, .slice none 0 0] 48))) (Nat.le_refl _) HpB.out ((HU0.out.trans_same HU1.out).trans_same HU2.out) HR2.out (HA1.out.trans HA.out) HF2.out (HN.out.mono (fun b hb _ => by have h1 := HS.out; unfold New at hb ⊢; omega)) (fun b hb _ => by have h1 := HS.out; unfold New at hb ⊢; omega))
mutual
def bigN : Nd → Prop
  | .mk _ names _ _ _ l => names.length ≤ 10000000 ∧ bigsN l
def bigsN : List Nd → Prop
  | [] => True
  | x :: xs => bigN x ∧ bigsN xs
end
theorem bigs_mem : ∀ {l : List Nd} {x : Nd}, bigsN l → x ∈ l → bigN x
  | [], _, _, h => by cases h
  | y :: ys, x, h, hx => by
    unfold bigsN at h
    rcases List.mem_cons.1 hx with rfl | hx
    · exact h.1
    · exact bigs_mem h.2 hx
theorem sizesF_mem : ∀ {l : List Nd} {x : Nd}, x ∈ l → sizeF x ≤ sizesF l
  | [], _, h => by cases h
  | y :: ys, x, hx => by
    simp only [sizesF]
    rcases List.mem_cons.1 hx with rfl | hx
    · omega
    · have := sizesF_mem hx; omega
def LsAt (w : World) (P : Nat → Prop) (a : Option Addr) (l : List Nd) : Prop := ∀ i x, l[i]? = some x → ∃ (g o : Nat) (xo : Int) (xn1 : Option Addr) (xn2 xn3 : Nat) (xs xm xq : Int) (xl1 : Option Addr) (xl2 xl3 : Nat), a = some ⟨g, o, none⟩ ∧ w.cell? ⟨g, o + i * 6, none⟩ = some (.int .i64 xo) ∧ w.cell? ⟨g, o + i * 6 + 1, none⟩ = some (.slice xn1 xn2 xn3) ∧ w.cell? ⟨g, o + i * 6 + 2, none⟩ = some (.int .i64 xs) ∧ w.cell? ⟨g, o + i * 6 + 3, none⟩ = some (.int .i64 xm) ∧ w.cell? ⟨g, o + i * 6 + 4, none⟩ = some (.int .i64 xq) ∧ w.cell? ⟨g, o + i * 6 + 5, none⟩ = some (.slice xl1 xl2 xl3) ∧ NdV w P x (.agg #[.int .i64 xo, .slice xn1 xn2 xn3, .int .i64 xs, .int .i64 xm, .int .i64 xq, .slice xl1 xl2 xl3])
theorem NdV.open {w : World} {P : Nat → Prop} {op so n m : Int} {names : List (List UInt8)} {l : List Nd} {v : Value} (h : NdV w P (.mk op names so n m l) v) : ∃ a1 c1 a2 c2, v = .agg #[.int .i64 op, .slice a1 names.length c1, .int .i64 so, .int .i64 n, .int .i64 m, .slice a2 l.length c2] ∧ SlP w P (.slice a1 names.length c1) names.length (names.map sV) ∧ LsAt w P a2 l := by
  unfold NdV at h
  obtain ⟨vn, vl, rfl, h1, h2⟩ := h
  obtain ⟨n1, n3, rfl⟩ := h1.len
  rcases h2 with ⟨rfl, a, c, rfl⟩ | ⟨g, o, c, rfl, -, h3⟩
  · exact ⟨n1, n3, a, c, rfl, h1, fun i x h => by simp at h⟩
  · refine ⟨n1, n3, _, c, rfl, h1, fun i x hi => ?_⟩
    obtain ⟨v0, v1, v2, v3, v4, v5, c0, c1, c2, c3, c4, c5, hn⟩ := h3.get l o i x hi
    obtain ⟨xo, xn1, xn2, xn3, xs, xm, xq, xl1, xl2, xl3, hs⟩ := hn.six
    simp only [Value.agg.injEq, Array.mk.injEq, List.cons.injEq, and_true] at hs
    obtain ⟨rfl, rfl, rfl, rfl, rfl, rfl⟩ := hs
    exact ⟨g, o, xo, xn1, xn2, xn3, xs, xm, xq, xl1, xl2, xl3, rfl, c0, c1, c2, c3, c4, c5, hn⟩
theorem LsAt.ext {w w' : World} {P : Nat → Prop} {a : Option Addr} {l : List Nd} (h : LsAt w P a l) (hu : Upto [] w w') : LsAt w' P a l := fun i x hi => by
  obtain ⟨g, o, xo, xn1, xn2, xn3, xs, xm, xq, xl1, xl2, xl3, e, c0, c1, c2, c3, c4, c5, hn⟩ := h i x hi
  have up : ∀ {j : Nat} {u : Value}, w.cell? ⟨g, j, none⟩ = some u → w'.cell? ⟨g, j, none⟩ = some u := fun hc => (hu.cell (World.block_lt_of_cell? w _ hc) (by simp)).trans hc
  exact ⟨g, o, xo, xn1, xn2, xn3, xs, xm, xq, xl1, xl2, xl3, e, up c0, up c1, up c2, up c3, up c4, up c5, hn.ext hu⟩
def wordsF : List (List UInt8) := [[116, 114, 117, 101], [102, 97, 108, 115, 101], [61], [105, 110], [115, 117, 98], [97, 100, 106], [111, 110], [], [], [], [], [110, 111, 116], [97, 110, 100], [111, 114], [105, 109, 112, 108, 105, 101, 115], [105, 102, 102], [115, 111, 109, 101], [101, 118, 101, 114, 121]]
def sortW (s : Int) : List UInt8 := if s = 0 then [118, 101, 114, 116, 101, 120] else if s = 1 then [101, 100, 103, 101] else if s = 2 then [115, 101, 116] else if s = 3 then [101, 100, 103, 101, 115] else []
mutual
def fullF : Nd → List UInt8
  | .mk op names so _ _ l => if op < 7 then names.getD 0 [] ++ [32] ++ wordsF.getD op.toNat [] ++ [32] ++ names.getD 1 []
    else if op < 16 then [40] ++ (fullsF l).getD 0 [] ++ [41, 32] ++ wordsF.getD op.toNat [] ++ [32, 40] ++ (fullsF l).getD 1 [] ++ [41]
    else wordsF.getD op.toNat [] ++ [32] ++ sortW so ++ [32] ++ names.getD 0 [] ++ [58, 32] ++ (fullsF l).getD 0 []
def fullsF : List Nd → List (List UInt8)
  | [] => []
  | x :: xs => fullF x :: fullsF xs
end
mutual
def plainF : Nd → Prop
  | .mk op names _so _ _ l => (2 ≤ op ∧ op < 7 ∧ 2 ≤ names.length) ∨ (12 ≤ op ∧ op < 16 ∧ 2 ≤ l.length ∧ plainsF l) ∨ (16 ≤ op ∧ op < 18 ∧ 1 ≤ names.length ∧ 1 ≤ l.length ∧ plainsF l)
def plainsF : List Nd → Prop
  | [] => True
  | x :: xs => plainF x ∧ plainsF xs
end
def Says (w : World) (P : Nat → Prop) (nd : Nd) (s : List UInt8) : Prop := ∀ v w1, Upto [] w w1 → NdV w1 P nd v → Calls Tryz.prog 21 #[v] w1 fun e w' => e = .returned (.string ⟨s.toArray⟩) ∧ Upto [] w1 w'
set_option maxHeartbeats 1600000 in
theorem sorted_calls (s : Int) (w : World) : Calls Tryz.prog 20 #[.int .i64 s] w fun e w' => e = .returned (.string ⟨(sortW s).toArray⟩) ∧ Upto [] w w' := by
  have HU := Lib.hid (Upto.refl [] w)
  by_cases h0 : s = 0
  · subst h0
    go_enter Tryz.func20, Tryz.ntmps20
    go_wp2_with fail
    go_ret
    exact ⟨rfl, HU.out⟩
  by_cases h1 : s = 1
  · subst h1
    go_enter Tryz.func20, Tryz.ntmps20
    go_wp2_with fail
    go_ret
    exact ⟨rfl, HU.out⟩
  by_cases h2 : s = 2
  · subst h2
    go_enter Tryz.func20, Tryz.ntmps20
    go_wp2_with fail
    go_ret
    exact ⟨rfl, HU.out⟩
  by_cases h3 : s = 3
  · subst h3
    go_enter Tryz.func20, Tryz.ntmps20
    go_wp2_with fail
    go_ret
    exact ⟨rfl, HU.out⟩
  have e : sortW s = [] := by unfold sortW; rw [if_neg h0, if_neg h1, if_neg h2, if_neg h3]
  rw [e]
  have b0 : (s == 0) = false := by simpa using h0
  have b1 : (s == 1) = false := by simpa using h1
  have b2 : (s == 2) = false := by simpa using h2
  have b3 : (s == 3) = false := by simpa using h3
  go_enter Tryz.func20, Tryz.ntmps20
  go_wp2_with fail
  go_ret
  exact ⟨rfl, HU.out⟩
set_option maxRecDepth 100000 in
set_option maxHeartbeats 6400000 in
theorem full_two (w : World) (k : Nat) (l1 : Option Addr) (n2 n3 l2 l3 : Nat) (so nn mm : Int) (W : List UInt8) (hW : wordsF[k]? = some W) (hk : 2 ≤ k ∧ k < 7) (g og : Nat) (x y : List UInt8) (hn2 : 2 ≤ n2) (hlx : x.length ≤ 1000000000000) (hly : y.length ≤ 1000000000000) (hx : w.cell? ⟨g, og, none⟩ = some (sV x)) (hy : w.cell? ⟨g, og + 1, none⟩ = some (sV y)) :
    Calls Tryz.prog 21 #[.agg #[.int .i64 k, .slice (some ⟨g, og, none⟩) n2 n3, .int .i64 so, .int .i64 nn, .int .i64 mm, .slice l1 l2 l3]] w fun e w' => e = .returned (.string ⟨(x ++ [32] ++ W ++ [32] ++ y).toArray⟩) ∧ Upto [] w w' := by
  have hu2 : Upto [] w ((w.alloc (.cells #[.int .i64 k, .slice (some ⟨g, og, none⟩) n2 n3, .int .i64 so, .int .i64 nn, .int .i64 mm, .slice l1 l2 l3] 25)).alloc (.cells #[.string ⟨#[116, 114, 117, 101]⟩, .string ⟨#[102, 97, 108, 115, 101]⟩, .string ⟨#[61]⟩, .string ⟨#[105, 110]⟩, .string ⟨#[115, 117, 98]⟩, .string ⟨#[97, 100, 106]⟩, .string ⟨#[111, 110]⟩, .string ⟨#[]⟩, .string ⟨#[]⟩, .string ⟨#[]⟩, .string ⟨#[]⟩, .string ⟨#[110, 111, 116]⟩, .string ⟨#[97, 110, 100]⟩, .string ⟨#[111, 114]⟩, .string ⟨#[105, 109, 112, 108, 105, 101, 115]⟩, .string ⟨#[105, 102, 102]⟩, .string ⟨#[115, 111, 109, 101]⟩, .string ⟨#[101, 118, 101, 114, 121]⟩] 9)) := ((Upto.refl [] w).alloc _).alloc _
  have HU2 := Lib.hid hu2
  have hb1 := alloc_old (new_at w (.cells #[.int .i64 k, .slice (some ⟨g, og, none⟩) n2 n3, .int .i64 so, .int .i64 nn, .int .i64 mm, .slice l1 l2 l3] 25)) (.cells #[.string ⟨#[116, 114, 117, 101]⟩, .string ⟨#[102, 97, 108, 115, 101]⟩, .string ⟨#[61]⟩, .string ⟨#[105, 110]⟩, .string ⟨#[115, 117, 98]⟩, .string ⟨#[97, 100, 106]⟩, .string ⟨#[111, 110]⟩, .string ⟨#[]⟩, .string ⟨#[]⟩, .string ⟨#[]⟩, .string ⟨#[]⟩, .string ⟨#[110, 111, 116]⟩, .string ⟨#[97, 110, 100]⟩, .string ⟨#[111, 114]⟩, .string ⟨#[105, 109, 112, 108, 105, 101, 115]⟩, .string ⟨#[105, 102, 102]⟩, .string ⟨#[115, 111, 109, 101]⟩, .string ⟨#[101, 118, 101, 114, 121]⟩] 9)
  have hb2 := new_at1 w (.cells #[.int .i64 k, .slice (some ⟨g, og, none⟩) n2 n3, .int .i64 so, .int .i64 nn, .int .i64 mm, .slice l1 l2 l3] 25) (.cells #[.string ⟨#[116, 114, 117, 101]⟩, .string ⟨#[102, 97, 108, 115, 101]⟩, .string ⟨#[61]⟩, .string ⟨#[105, 110]⟩, .string ⟨#[115, 117, 98]⟩, .string ⟨#[97, 100, 106]⟩, .string ⟨#[111, 110]⟩, .string ⟨#[]⟩, .string ⟨#[]⟩, .string ⟨#[]⟩, .string ⟨#[]⟩, .string ⟨#[110, 111, 116]⟩, .string ⟨#[97, 110, 100]⟩, .string ⟨#[111, 114]⟩, .string ⟨#[105, 109, 112, 108, 105, 101, 115]⟩, .string ⟨#[105, 102, 102]⟩, .string ⟨#[115, 111, 109, 101]⟩, .string ⟨#[101, 118, 101, 114, 121]⟩] 9)
  have hc : ((w.alloc (.cells #[.int .i64 k, .slice (some ⟨g, og, none⟩) n2 n3, .int .i64 so, .int .i64 nn, .int .i64 mm, .slice l1 l2 l3] 25)).alloc (.cells #[.string ⟨#[116, 114, 117, 101]⟩, .string ⟨#[102, 97, 108, 115, 101]⟩, .string ⟨#[61]⟩, .string ⟨#[105, 110]⟩, .string ⟨#[115, 117, 98]⟩, .string ⟨#[97, 100, 106]⟩, .string ⟨#[111, 110]⟩, .string ⟨#[]⟩, .string ⟨#[]⟩, .string ⟨#[]⟩, .string ⟨#[]⟩, .string ⟨#[110, 111, 116]⟩, .string ⟨#[97, 110, 100]⟩, .string ⟨#[111, 114]⟩, .string ⟨#[105, 109, 112, 108, 105, 101, 115]⟩, .string ⟨#[105, 102, 102]⟩, .string ⟨#[115, 111, 109, 101]⟩, .string ⟨#[101, 118, 101, 114, 121]⟩] 9)).cell? ⟨w.heap.size + 1, k, none⟩ = some (.string ⟨W.toArray⟩) := by
    rw [cell_of hb2]
    have hk : k = 2 ∨ k = 3 ∨ k = 4 ∨ k = 5 ∨ k = 6 ∨ k = 7 ∨ k = 8 ∨ k = 9 ∨ k = 10 ∨ k = 11 ∨ k = 12 ∨ k = 13 ∨ k = 14 ∨ k = 15 ∨ k = 16 ∨ k = 17 := by omega
    rcases hk with rfl | rfl | rfl | rfl | rfl | rfl | rfl | rfl | rfl | rfl | rfl | rfl | rfl | rfl | rfl | rfl <;> (cases hW; rfl)
  have q0 : ¬ ((k : Int) < 2) := by omega
  have q1 : (k : Int) < 7 := by omega
  have q2 : (0 : Int) < n2 := by omega
  have q3 : (1 : Int) < n2 := by omega
  have q4 : (k : Int) < 18 := by omega
  have q5 : (0 : Int) ≤ k := by omega
  obtain ⟨xa0, xa1, xa2, xa3, xa4, xa5⟩ := cells6 hb1
  obtain ⟨ya0, ya1, ya2, ya3, ya4, ya5⟩ := frees6 hb1
  have e0 : ∀ u : Ext ((w.alloc (.cells #[.int .i64 k, .slice (some ⟨g, og, none⟩) n2 n3, .int .i64 so, .int .i64 nn, .int .i64 mm, .slice l1 l2 l3] 25)).alloc (.cells #[.string ⟨#[116, 114, 117, 101]⟩, .string ⟨#[102, 97, 108, 115, 101]⟩, .string ⟨#[61]⟩, .string ⟨#[105, 110]⟩, .string ⟨#[115, 117, 98]⟩, .string ⟨#[97, 100, 106]⟩, .string ⟨#[111, 110]⟩, .string ⟨#[]⟩, .string ⟨#[]⟩, .string ⟨#[]⟩, .string ⟨#[]⟩, .string ⟨#[110, 111, 116]⟩, .string ⟨#[97, 110, 100]⟩, .string ⟨#[111, 114]⟩, .string ⟨#[105, 109, 112, 108, 105, 101, 115]⟩, .string ⟨#[105, 102, 102]⟩, .string ⟨#[115, 111, 109, 101]⟩, .string ⟨#[101, 118, 101, 114, 121]⟩] 9)), u.w.cell? ⟨w.heap.size, 0, none⟩ = some (.int .i64 k) := fun u => u.cell (cell_of hb1 0)
  have e1 : ∀ u : Ext ((w.alloc (.cells #[.int .i64 k, .slice (some ⟨g, og, none⟩) n2 n3, .int .i64 so, .int .i64 nn, .int .i64 mm, .slice l1 l2 l3] 25)).alloc (.cells #[.string ⟨#[116, 114, 117, 101]⟩, .string ⟨#[102, 97, 108, 115, 101]⟩, .string ⟨#[61]⟩, .string ⟨#[105, 110]⟩, .string ⟨#[115, 117, 98]⟩, .string ⟨#[97, 100, 106]⟩, .string ⟨#[111, 110]⟩, .string ⟨#[]⟩, .string ⟨#[]⟩, .string ⟨#[]⟩, .string ⟨#[]⟩, .string ⟨#[110, 111, 116]⟩, .string ⟨#[97, 110, 100]⟩, .string ⟨#[111, 114]⟩, .string ⟨#[105, 109, 112, 108, 105, 101, 115]⟩, .string ⟨#[105, 102, 102]⟩, .string ⟨#[115, 111, 109, 101]⟩, .string ⟨#[101, 118, 101, 114, 121]⟩] 9)), u.w.cell? ⟨w.heap.size, 1, none⟩ = some (.slice (some ⟨g, og, none⟩) n2 n3) := fun u => u.cell (cell_of hb1 1)
  have e2 : ∀ u : Ext ((w.alloc (.cells #[.int .i64 k, .slice (some ⟨g, og, none⟩) n2 n3, .int .i64 so, .int .i64 nn, .int .i64 mm, .slice l1 l2 l3] 25)).alloc (.cells #[.string ⟨#[116, 114, 117, 101]⟩, .string ⟨#[102, 97, 108, 115, 101]⟩, .string ⟨#[61]⟩, .string ⟨#[105, 110]⟩, .string ⟨#[115, 117, 98]⟩, .string ⟨#[97, 100, 106]⟩, .string ⟨#[111, 110]⟩, .string ⟨#[]⟩, .string ⟨#[]⟩, .string ⟨#[]⟩, .string ⟨#[]⟩, .string ⟨#[110, 111, 116]⟩, .string ⟨#[97, 110, 100]⟩, .string ⟨#[111, 114]⟩, .string ⟨#[105, 109, 112, 108, 105, 101, 115]⟩, .string ⟨#[105, 102, 102]⟩, .string ⟨#[115, 111, 109, 101]⟩, .string ⟨#[101, 118, 101, 114, 121]⟩] 9)), u.w.cell? ⟨w.heap.size, 2, none⟩ = some (.int .i64 so) := fun u => u.cell (cell_of hb1 2)
  have e5 : ∀ u : Ext ((w.alloc (.cells #[.int .i64 k, .slice (some ⟨g, og, none⟩) n2 n3, .int .i64 so, .int .i64 nn, .int .i64 mm, .slice l1 l2 l3] 25)).alloc (.cells #[.string ⟨#[116, 114, 117, 101]⟩, .string ⟨#[102, 97, 108, 115, 101]⟩, .string ⟨#[61]⟩, .string ⟨#[105, 110]⟩, .string ⟨#[115, 117, 98]⟩, .string ⟨#[97, 100, 106]⟩, .string ⟨#[111, 110]⟩, .string ⟨#[]⟩, .string ⟨#[]⟩, .string ⟨#[]⟩, .string ⟨#[]⟩, .string ⟨#[110, 111, 116]⟩, .string ⟨#[97, 110, 100]⟩, .string ⟨#[111, 114]⟩, .string ⟨#[105, 109, 112, 108, 105, 101, 115]⟩, .string ⟨#[105, 102, 102]⟩, .string ⟨#[115, 111, 109, 101]⟩, .string ⟨#[101, 118, 101, 114, 121]⟩] 9)), u.w.cell? ⟨w.heap.size, 5, none⟩ = some (.slice l1 l2 l3) := fun u => u.cell (cell_of hb1 5)
  have ew : ∀ u : Ext ((w.alloc (.cells #[.int .i64 k, .slice (some ⟨g, og, none⟩) n2 n3, .int .i64 so, .int .i64 nn, .int .i64 mm, .slice l1 l2 l3] 25)).alloc (.cells #[.string ⟨#[116, 114, 117, 101]⟩, .string ⟨#[102, 97, 108, 115, 101]⟩, .string ⟨#[61]⟩, .string ⟨#[105, 110]⟩, .string ⟨#[115, 117, 98]⟩, .string ⟨#[97, 100, 106]⟩, .string ⟨#[111, 110]⟩, .string ⟨#[]⟩, .string ⟨#[]⟩, .string ⟨#[]⟩, .string ⟨#[]⟩, .string ⟨#[110, 111, 116]⟩, .string ⟨#[97, 110, 100]⟩, .string ⟨#[111, 114]⟩, .string ⟨#[105, 109, 112, 108, 105, 101, 115]⟩, .string ⟨#[105, 102, 102]⟩, .string ⟨#[115, 111, 109, 101]⟩, .string ⟨#[101, 118, 101, 114, 121]⟩] 9)), u.w.cell? ⟨w.heap.size + 1, k, none⟩ = some (.string ⟨W.toArray⟩) := fun u => u.cell hc
  have ex : ∀ u : Ext ((w.alloc (.cells #[.int .i64 k, .slice (some ⟨g, og, none⟩) n2 n3, .int .i64 so, .int .i64 nn, .int .i64 mm, .slice l1 l2 l3] 25)).alloc (.cells #[.string ⟨#[116, 114, 117, 101]⟩, .string ⟨#[102, 97, 108, 115, 101]⟩, .string ⟨#[61]⟩, .string ⟨#[105, 110]⟩, .string ⟨#[115, 117, 98]⟩, .string ⟨#[97, 100, 106]⟩, .string ⟨#[111, 110]⟩, .string ⟨#[]⟩, .string ⟨#[]⟩, .string ⟨#[]⟩, .string ⟨#[]⟩, .string ⟨#[110, 111, 116]⟩, .string ⟨#[97, 110, 100]⟩, .string ⟨#[111, 114]⟩, .string ⟨#[105, 109, 112, 108, 105, 101, 115]⟩, .string ⟨#[105, 102, 102]⟩, .string ⟨#[115, 111, 109, 101]⟩, .string ⟨#[101, 118, 101, 114, 121]⟩] 9)), u.w.cell? ⟨g, og, none⟩ = some (.string ⟨x.toArray⟩) := fun u => u.cell ((hu2.cell (p := ⟨g, og, none⟩) (World.block_lt_of_cell? w _ hx) (by simp)).trans hx)
  have ey : ∀ u : Ext ((w.alloc (.cells #[.int .i64 k, .slice (some ⟨g, og, none⟩) n2 n3, .int .i64 so, .int .i64 nn, .int .i64 mm, .slice l1 l2 l3] 25)).alloc (.cells #[.string ⟨#[116, 114, 117, 101]⟩, .string ⟨#[102, 97, 108, 115, 101]⟩, .string ⟨#[61]⟩, .string ⟨#[105, 110]⟩, .string ⟨#[115, 117, 98]⟩, .string ⟨#[97, 100, 106]⟩, .string ⟨#[111, 110]⟩, .string ⟨#[]⟩, .string ⟨#[]⟩, .string ⟨#[]⟩, .string ⟨#[]⟩, .string ⟨#[110, 111, 116]⟩, .string ⟨#[97, 110, 100]⟩, .string ⟨#[111, 114]⟩, .string ⟨#[105, 109, 112, 108, 105, 101, 115]⟩, .string ⟨#[105, 102, 102]⟩, .string ⟨#[115, 111, 109, 101]⟩, .string ⟨#[101, 118, 101, 114, 121]⟩] 9)), u.w.cell? ⟨g, og + 1, none⟩ = some (.string ⟨y.toArray⟩) := fun u => u.cell ((hu2.cell (p := ⟨g, og + 1, none⟩) (World.block_lt_of_cell? w _ hy) (by simp)).trans hy)
  have lW : W.length ≤ 10 := by
    have hk : k = 2 ∨ k = 3 ∨ k = 4 ∨ k = 5 ∨ k = 6 ∨ k = 7 ∨ k = 8 ∨ k = 9 ∨ k = 10 ∨ k = 11 ∨ k = 12 ∨ k = 13 ∨ k = 14 ∨ k = 15 ∨ k = 16 ∨ k = 17 := by omega
    rcases hk with rfl | rfl | rfl | rfl | rfl | rfl | rfl | rfl | rfl | rfl | rfl | rfl | rfl | rfl | rfl | rfl <;> (cases hW; simp)
  have sm0 : x.length + 1 ≤ 9223372036854775807 := by omega
  have sm1 : x.length + 1 + W.length ≤ 9223372036854775807 := by omega
  have sm2 : x.length + 1 + W.length + 1 ≤ 9223372036854775807 := by omega
  have sm3 : x.length + 1 + W.length + 1 + y.length ≤ 9223372036854775807 := by omega
  clear hu2 hb1 hb2 hc hW hx hy hlx hly
  go_enter Tryz.func21, Tryz.ntmps21
  go_wp2_with fail
  refine wp_region_seg_all [] [] [0, 1, 2, 3, 4, 5, 6, 7, 8, 9, 10, 11, 12, 13, 14, 15, 16, 17] (by kernel_rfl) (by kernel_rfl) ?_
  iterate 18 (refine seg_plain rfl rfl rfl rfl rfl ?_; intro K' hK'; go_big_quiet_op; go_big_quiet_on)
  intro w9 hg
  have HU3 := Lib.hid (HU2.out.trans_ext hg.up)
  clear hg e0 e1 e2 e5 ew ex ey
  go_wp2_with fail
  go_ret
  exact ⟨congrArg (fun z => Ending.returned (.string z)) (show ByteArray.mk x.toArray ++ ByteArray.mk [32].toArray ++ ByteArray.mk W.toArray ++ ByteArray.mk [32].toArray ++ ByteArray.mk y.toArray = ⟨(x ++ [32] ++ W ++ [32] ++ y).toArray⟩ by simp only [ByteArray.mk_append_mk]), HU3.out⟩
set_option maxRecDepth 100000 in
set_option maxHeartbeats 6400000 in
theorem full_bin (w : World) (k : Nat) (n1 : Option Addr) (n2 n3 l2 l3 : Nat) (so nn mm : Int) (W : List UInt8) (hW : wordsF[k]? = some W) (hk : 12 ≤ k ∧ k < 16) (g og : Nat) (P : Nat → Prop) (a b : Nd) (sa sb : List UInt8) (hl2 : 2 ≤ l2) (hx : NdsV w P g og [a, b]) (hlx : sa.length ≤ 1000000000000) (hly : sb.length ≤ 1000000000000) (ha : Says w P a sa) (hb : Says w P b sb) :
    Calls Tryz.prog 21 #[.agg #[.int .i64 k, .slice n1 n2 n3, .int .i64 so, .int .i64 nn, .int .i64 mm, .slice (some ⟨g, og, none⟩) l2 l3]] w fun e w' => e = .returned (.string ⟨([40] ++ sa ++ [41, 32] ++ W ++ [32, 40] ++ sb ++ [41]).toArray⟩) ∧ Upto [] w w' := by
  have hu2 : Upto [] w ((w.alloc (.cells #[.int .i64 k, .slice n1 n2 n3, .int .i64 so, .int .i64 nn, .int .i64 mm, .slice (some ⟨g, og, none⟩) l2 l3] 25)).alloc (.cells #[.string ⟨#[116, 114, 117, 101]⟩, .string ⟨#[102, 97, 108, 115, 101]⟩, .string ⟨#[61]⟩, .string ⟨#[105, 110]⟩, .string ⟨#[115, 117, 98]⟩, .string ⟨#[97, 100, 106]⟩, .string ⟨#[111, 110]⟩, .string ⟨#[]⟩, .string ⟨#[]⟩, .string ⟨#[]⟩, .string ⟨#[]⟩, .string ⟨#[110, 111, 116]⟩, .string ⟨#[97, 110, 100]⟩, .string ⟨#[111, 114]⟩, .string ⟨#[105, 109, 112, 108, 105, 101, 115]⟩, .string ⟨#[105, 102, 102]⟩, .string ⟨#[115, 111, 109, 101]⟩, .string ⟨#[101, 118, 101, 114, 121]⟩] 9)) := ((Upto.refl [] w).alloc _).alloc _
  have HU2 := Lib.hid hu2
  have hb1 := alloc_old (new_at w (.cells #[.int .i64 k, .slice n1 n2 n3, .int .i64 so, .int .i64 nn, .int .i64 mm, .slice (some ⟨g, og, none⟩) l2 l3] 25)) (.cells #[.string ⟨#[116, 114, 117, 101]⟩, .string ⟨#[102, 97, 108, 115, 101]⟩, .string ⟨#[61]⟩, .string ⟨#[105, 110]⟩, .string ⟨#[115, 117, 98]⟩, .string ⟨#[97, 100, 106]⟩, .string ⟨#[111, 110]⟩, .string ⟨#[]⟩, .string ⟨#[]⟩, .string ⟨#[]⟩, .string ⟨#[]⟩, .string ⟨#[110, 111, 116]⟩, .string ⟨#[97, 110, 100]⟩, .string ⟨#[111, 114]⟩, .string ⟨#[105, 109, 112, 108, 105, 101, 115]⟩, .string ⟨#[105, 102, 102]⟩, .string ⟨#[115, 111, 109, 101]⟩, .string ⟨#[101, 118, 101, 114, 121]⟩] 9)
  have hb2 := new_at1 w (.cells #[.int .i64 k, .slice n1 n2 n3, .int .i64 so, .int .i64 nn, .int .i64 mm, .slice (some ⟨g, og, none⟩) l2 l3] 25) (.cells #[.string ⟨#[116, 114, 117, 101]⟩, .string ⟨#[102, 97, 108, 115, 101]⟩, .string ⟨#[61]⟩, .string ⟨#[105, 110]⟩, .string ⟨#[115, 117, 98]⟩, .string ⟨#[97, 100, 106]⟩, .string ⟨#[111, 110]⟩, .string ⟨#[]⟩, .string ⟨#[]⟩, .string ⟨#[]⟩, .string ⟨#[]⟩, .string ⟨#[110, 111, 116]⟩, .string ⟨#[97, 110, 100]⟩, .string ⟨#[111, 114]⟩, .string ⟨#[105, 109, 112, 108, 105, 101, 115]⟩, .string ⟨#[105, 102, 102]⟩, .string ⟨#[115, 111, 109, 101]⟩, .string ⟨#[101, 118, 101, 114, 121]⟩] 9)
  have hc : ((w.alloc (.cells #[.int .i64 k, .slice n1 n2 n3, .int .i64 so, .int .i64 nn, .int .i64 mm, .slice (some ⟨g, og, none⟩) l2 l3] 25)).alloc (.cells #[.string ⟨#[116, 114, 117, 101]⟩, .string ⟨#[102, 97, 108, 115, 101]⟩, .string ⟨#[61]⟩, .string ⟨#[105, 110]⟩, .string ⟨#[115, 117, 98]⟩, .string ⟨#[97, 100, 106]⟩, .string ⟨#[111, 110]⟩, .string ⟨#[]⟩, .string ⟨#[]⟩, .string ⟨#[]⟩, .string ⟨#[]⟩, .string ⟨#[110, 111, 116]⟩, .string ⟨#[97, 110, 100]⟩, .string ⟨#[111, 114]⟩, .string ⟨#[105, 109, 112, 108, 105, 101, 115]⟩, .string ⟨#[105, 102, 102]⟩, .string ⟨#[115, 111, 109, 101]⟩, .string ⟨#[101, 118, 101, 114, 121]⟩] 9)).cell? ⟨w.heap.size + 1, k, none⟩ = some (.string ⟨W.toArray⟩) := by
    rw [cell_of hb2]
    have hk : k = 2 ∨ k = 3 ∨ k = 4 ∨ k = 5 ∨ k = 6 ∨ k = 7 ∨ k = 8 ∨ k = 9 ∨ k = 10 ∨ k = 11 ∨ k = 12 ∨ k = 13 ∨ k = 14 ∨ k = 15 ∨ k = 16 ∨ k = 17 := by omega
    rcases hk with rfl | rfl | rfl | rfl | rfl | rfl | rfl | rfl | rfl | rfl | rfl | rfl | rfl | rfl | rfl | rfl <;> (cases hW; rfl)
  have q0 : ¬ ((k : Int) < 2) := by omega
  have q1 : ¬ ((k : Int) < 7) := by omega
  have q2 : ((k : Int) == 7) = false := by simp; omega
  have q3 : ((k : Int) == 8) = false := by simp; omega
  have q4 : ((k : Int) == 9) = false := by simp; omega
  have q5 : ((k : Int) == 10) = false := by simp; omega
  have q6 : ((k : Int) == 11) = false := by simp; omega
  have q7 : (k : Int) < 16 := by omega
  have q8 : (0 : Int) < l2 := by omega
  have q9 : (1 : Int) < l2 := by omega
  have q10 : (k : Int) < 18 := by omega
  have q11 : (0 : Int) ≤ k := by omega
  obtain ⟨xa0, xa1, xa2, xa3, xa4, xa5⟩ := cells6 hb1
  obtain ⟨ya0, ya1, ya2, ya3, ya4, ya5⟩ := frees6 hb1
  have e0 : ∀ u : Ext ((w.alloc (.cells #[.int .i64 k, .slice n1 n2 n3, .int .i64 so, .int .i64 nn, .int .i64 mm, .slice (some ⟨g, og, none⟩) l2 l3] 25)).alloc (.cells #[.string ⟨#[116, 114, 117, 101]⟩, .string ⟨#[102, 97, 108, 115, 101]⟩, .string ⟨#[61]⟩, .string ⟨#[105, 110]⟩, .string ⟨#[115, 117, 98]⟩, .string ⟨#[97, 100, 106]⟩, .string ⟨#[111, 110]⟩, .string ⟨#[]⟩, .string ⟨#[]⟩, .string ⟨#[]⟩, .string ⟨#[]⟩, .string ⟨#[110, 111, 116]⟩, .string ⟨#[97, 110, 100]⟩, .string ⟨#[111, 114]⟩, .string ⟨#[105, 109, 112, 108, 105, 101, 115]⟩, .string ⟨#[105, 102, 102]⟩, .string ⟨#[115, 111, 109, 101]⟩, .string ⟨#[101, 118, 101, 114, 121]⟩] 9)), u.w.cell? ⟨w.heap.size, 0, none⟩ = some (.int .i64 k) := fun u => u.cell (cell_of hb1 0)
  have e1 : ∀ u : Ext ((w.alloc (.cells #[.int .i64 k, .slice n1 n2 n3, .int .i64 so, .int .i64 nn, .int .i64 mm, .slice (some ⟨g, og, none⟩) l2 l3] 25)).alloc (.cells #[.string ⟨#[116, 114, 117, 101]⟩, .string ⟨#[102, 97, 108, 115, 101]⟩, .string ⟨#[61]⟩, .string ⟨#[105, 110]⟩, .string ⟨#[115, 117, 98]⟩, .string ⟨#[97, 100, 106]⟩, .string ⟨#[111, 110]⟩, .string ⟨#[]⟩, .string ⟨#[]⟩, .string ⟨#[]⟩, .string ⟨#[]⟩, .string ⟨#[110, 111, 116]⟩, .string ⟨#[97, 110, 100]⟩, .string ⟨#[111, 114]⟩, .string ⟨#[105, 109, 112, 108, 105, 101, 115]⟩, .string ⟨#[105, 102, 102]⟩, .string ⟨#[115, 111, 109, 101]⟩, .string ⟨#[101, 118, 101, 114, 121]⟩] 9)), u.w.cell? ⟨w.heap.size, 1, none⟩ = some (.slice n1 n2 n3) := fun u => u.cell (cell_of hb1 1)
  have e2 : ∀ u : Ext ((w.alloc (.cells #[.int .i64 k, .slice n1 n2 n3, .int .i64 so, .int .i64 nn, .int .i64 mm, .slice (some ⟨g, og, none⟩) l2 l3] 25)).alloc (.cells #[.string ⟨#[116, 114, 117, 101]⟩, .string ⟨#[102, 97, 108, 115, 101]⟩, .string ⟨#[61]⟩, .string ⟨#[105, 110]⟩, .string ⟨#[115, 117, 98]⟩, .string ⟨#[97, 100, 106]⟩, .string ⟨#[111, 110]⟩, .string ⟨#[]⟩, .string ⟨#[]⟩, .string ⟨#[]⟩, .string ⟨#[]⟩, .string ⟨#[110, 111, 116]⟩, .string ⟨#[97, 110, 100]⟩, .string ⟨#[111, 114]⟩, .string ⟨#[105, 109, 112, 108, 105, 101, 115]⟩, .string ⟨#[105, 102, 102]⟩, .string ⟨#[115, 111, 109, 101]⟩, .string ⟨#[101, 118, 101, 114, 121]⟩] 9)), u.w.cell? ⟨w.heap.size, 2, none⟩ = some (.int .i64 so) := fun u => u.cell (cell_of hb1 2)
  have e5 : ∀ u : Ext ((w.alloc (.cells #[.int .i64 k, .slice n1 n2 n3, .int .i64 so, .int .i64 nn, .int .i64 mm, .slice (some ⟨g, og, none⟩) l2 l3] 25)).alloc (.cells #[.string ⟨#[116, 114, 117, 101]⟩, .string ⟨#[102, 97, 108, 115, 101]⟩, .string ⟨#[61]⟩, .string ⟨#[105, 110]⟩, .string ⟨#[115, 117, 98]⟩, .string ⟨#[97, 100, 106]⟩, .string ⟨#[111, 110]⟩, .string ⟨#[]⟩, .string ⟨#[]⟩, .string ⟨#[]⟩, .string ⟨#[]⟩, .string ⟨#[110, 111, 116]⟩, .string ⟨#[97, 110, 100]⟩, .string ⟨#[111, 114]⟩, .string ⟨#[105, 109, 112, 108, 105, 101, 115]⟩, .string ⟨#[105, 102, 102]⟩, .string ⟨#[115, 111, 109, 101]⟩, .string ⟨#[101, 118, 101, 114, 121]⟩] 9)), u.w.cell? ⟨w.heap.size, 5, none⟩ = some (.slice (some ⟨g, og, none⟩) l2 l3) := fun u => u.cell (cell_of hb1 5)
  have ew : ∀ u : Ext ((w.alloc (.cells #[.int .i64 k, .slice n1 n2 n3, .int .i64 so, .int .i64 nn, .int .i64 mm, .slice (some ⟨g, og, none⟩) l2 l3] 25)).alloc (.cells #[.string ⟨#[116, 114, 117, 101]⟩, .string ⟨#[102, 97, 108, 115, 101]⟩, .string ⟨#[61]⟩, .string ⟨#[105, 110]⟩, .string ⟨#[115, 117, 98]⟩, .string ⟨#[97, 100, 106]⟩, .string ⟨#[111, 110]⟩, .string ⟨#[]⟩, .string ⟨#[]⟩, .string ⟨#[]⟩, .string ⟨#[]⟩, .string ⟨#[110, 111, 116]⟩, .string ⟨#[97, 110, 100]⟩, .string ⟨#[111, 114]⟩, .string ⟨#[105, 109, 112, 108, 105, 101, 115]⟩, .string ⟨#[105, 102, 102]⟩, .string ⟨#[115, 111, 109, 101]⟩, .string ⟨#[101, 118, 101, 114, 121]⟩] 9)), u.w.cell? ⟨w.heap.size + 1, k, none⟩ = some (.string ⟨W.toArray⟩) := fun u => u.cell hc
  unfold NdsV NdsV NdsV at hx
  obtain ⟨⟨_, _, _, _, _, _, ac0, ac1, ac2, ac3, ac4, ac5, an⟩, ⟨_, _, _, _, _, _, bc0, bc1, bc2, bc3, bc4, bc5, bn⟩, -⟩ := hx
  obtain ⟨ao, an1, an2, an3, aso, am, aq, al1, al2, al3, ae⟩ := an.six
  simp only [Value.agg.injEq, Array.mk.injEq, List.cons.injEq, and_true] at ae
  obtain ⟨rfl, rfl, rfl, rfl, rfl, rfl⟩ := ae
  have af0 : ∀ u : Ext ((w.alloc (.cells #[.int .i64 k, .slice n1 n2 n3, .int .i64 so, .int .i64 nn, .int .i64 mm, .slice (some ⟨g, og, none⟩) l2 l3] 25)).alloc (.cells #[.string ⟨#[116, 114, 117, 101]⟩, .string ⟨#[102, 97, 108, 115, 101]⟩, .string ⟨#[61]⟩, .string ⟨#[105, 110]⟩, .string ⟨#[115, 117, 98]⟩, .string ⟨#[97, 100, 106]⟩, .string ⟨#[111, 110]⟩, .string ⟨#[]⟩, .string ⟨#[]⟩, .string ⟨#[]⟩, .string ⟨#[]⟩, .string ⟨#[110, 111, 116]⟩, .string ⟨#[97, 110, 100]⟩, .string ⟨#[111, 114]⟩, .string ⟨#[105, 109, 112, 108, 105, 101, 115]⟩, .string ⟨#[105, 102, 102]⟩, .string ⟨#[115, 111, 109, 101]⟩, .string ⟨#[101, 118, 101, 114, 121]⟩] 9)), u.w.cell? ⟨g, og, none⟩ = some _ := fun u => u.cell ((hu2.cell (p := ⟨g, og, none⟩) (World.block_lt_of_cell? w _ ac0) (by simp)).trans ac0)
  have af1 : ∀ u : Ext ((w.alloc (.cells #[.int .i64 k, .slice n1 n2 n3, .int .i64 so, .int .i64 nn, .int .i64 mm, .slice (some ⟨g, og, none⟩) l2 l3] 25)).alloc (.cells #[.string ⟨#[116, 114, 117, 101]⟩, .string ⟨#[102, 97, 108, 115, 101]⟩, .string ⟨#[61]⟩, .string ⟨#[105, 110]⟩, .string ⟨#[115, 117, 98]⟩, .string ⟨#[97, 100, 106]⟩, .string ⟨#[111, 110]⟩, .string ⟨#[]⟩, .string ⟨#[]⟩, .string ⟨#[]⟩, .string ⟨#[]⟩, .string ⟨#[110, 111, 116]⟩, .string ⟨#[97, 110, 100]⟩, .string ⟨#[111, 114]⟩, .string ⟨#[105, 109, 112, 108, 105, 101, 115]⟩, .string ⟨#[105, 102, 102]⟩, .string ⟨#[115, 111, 109, 101]⟩, .string ⟨#[101, 118, 101, 114, 121]⟩] 9)), u.w.cell? ⟨g, og + 1, none⟩ = some _ := fun u => u.cell ((hu2.cell (p := ⟨g, og + 1, none⟩) (World.block_lt_of_cell? w _ ac1) (by simp)).trans ac1)
  have af2 : ∀ u : Ext ((w.alloc (.cells #[.int .i64 k, .slice n1 n2 n3, .int .i64 so, .int .i64 nn, .int .i64 mm, .slice (some ⟨g, og, none⟩) l2 l3] 25)).alloc (.cells #[.string ⟨#[116, 114, 117, 101]⟩, .string ⟨#[102, 97, 108, 115, 101]⟩, .string ⟨#[61]⟩, .string ⟨#[105, 110]⟩, .string ⟨#[115, 117, 98]⟩, .string ⟨#[97, 100, 106]⟩, .string ⟨#[111, 110]⟩, .string ⟨#[]⟩, .string ⟨#[]⟩, .string ⟨#[]⟩, .string ⟨#[]⟩, .string ⟨#[110, 111, 116]⟩, .string ⟨#[97, 110, 100]⟩, .string ⟨#[111, 114]⟩, .string ⟨#[105, 109, 112, 108, 105, 101, 115]⟩, .string ⟨#[105, 102, 102]⟩, .string ⟨#[115, 111, 109, 101]⟩, .string ⟨#[101, 118, 101, 114, 121]⟩] 9)), u.w.cell? ⟨g, og + 2, none⟩ = some _ := fun u => u.cell ((hu2.cell (p := ⟨g, og + 2, none⟩) (World.block_lt_of_cell? w _ ac2) (by simp)).trans ac2)
  have af3 : ∀ u : Ext ((w.alloc (.cells #[.int .i64 k, .slice n1 n2 n3, .int .i64 so, .int .i64 nn, .int .i64 mm, .slice (some ⟨g, og, none⟩) l2 l3] 25)).alloc (.cells #[.string ⟨#[116, 114, 117, 101]⟩, .string ⟨#[102, 97, 108, 115, 101]⟩, .string ⟨#[61]⟩, .string ⟨#[105, 110]⟩, .string ⟨#[115, 117, 98]⟩, .string ⟨#[97, 100, 106]⟩, .string ⟨#[111, 110]⟩, .string ⟨#[]⟩, .string ⟨#[]⟩, .string ⟨#[]⟩, .string ⟨#[]⟩, .string ⟨#[110, 111, 116]⟩, .string ⟨#[97, 110, 100]⟩, .string ⟨#[111, 114]⟩, .string ⟨#[105, 109, 112, 108, 105, 101, 115]⟩, .string ⟨#[105, 102, 102]⟩, .string ⟨#[115, 111, 109, 101]⟩, .string ⟨#[101, 118, 101, 114, 121]⟩] 9)), u.w.cell? ⟨g, og + 3, none⟩ = some _ := fun u => u.cell ((hu2.cell (p := ⟨g, og + 3, none⟩) (World.block_lt_of_cell? w _ ac3) (by simp)).trans ac3)
  have af4 : ∀ u : Ext ((w.alloc (.cells #[.int .i64 k, .slice n1 n2 n3, .int .i64 so, .int .i64 nn, .int .i64 mm, .slice (some ⟨g, og, none⟩) l2 l3] 25)).alloc (.cells #[.string ⟨#[116, 114, 117, 101]⟩, .string ⟨#[102, 97, 108, 115, 101]⟩, .string ⟨#[61]⟩, .string ⟨#[105, 110]⟩, .string ⟨#[115, 117, 98]⟩, .string ⟨#[97, 100, 106]⟩, .string ⟨#[111, 110]⟩, .string ⟨#[]⟩, .string ⟨#[]⟩, .string ⟨#[]⟩, .string ⟨#[]⟩, .string ⟨#[110, 111, 116]⟩, .string ⟨#[97, 110, 100]⟩, .string ⟨#[111, 114]⟩, .string ⟨#[105, 109, 112, 108, 105, 101, 115]⟩, .string ⟨#[105, 102, 102]⟩, .string ⟨#[115, 111, 109, 101]⟩, .string ⟨#[101, 118, 101, 114, 121]⟩] 9)), u.w.cell? ⟨g, og + 4, none⟩ = some _ := fun u => u.cell ((hu2.cell (p := ⟨g, og + 4, none⟩) (World.block_lt_of_cell? w _ ac4) (by simp)).trans ac4)
  have af5 : ∀ u : Ext ((w.alloc (.cells #[.int .i64 k, .slice n1 n2 n3, .int .i64 so, .int .i64 nn, .int .i64 mm, .slice (some ⟨g, og, none⟩) l2 l3] 25)).alloc (.cells #[.string ⟨#[116, 114, 117, 101]⟩, .string ⟨#[102, 97, 108, 115, 101]⟩, .string ⟨#[61]⟩, .string ⟨#[105, 110]⟩, .string ⟨#[115, 117, 98]⟩, .string ⟨#[97, 100, 106]⟩, .string ⟨#[111, 110]⟩, .string ⟨#[]⟩, .string ⟨#[]⟩, .string ⟨#[]⟩, .string ⟨#[]⟩, .string ⟨#[110, 111, 116]⟩, .string ⟨#[97, 110, 100]⟩, .string ⟨#[111, 114]⟩, .string ⟨#[105, 109, 112, 108, 105, 101, 115]⟩, .string ⟨#[105, 102, 102]⟩, .string ⟨#[115, 111, 109, 101]⟩, .string ⟨#[101, 118, 101, 114, 121]⟩] 9)), u.w.cell? ⟨g, og + 5, none⟩ = some _ := fun u => u.cell ((hu2.cell (p := ⟨g, og + 5, none⟩) (World.block_lt_of_cell? w _ ac5) (by simp)).trans ac5)
  have aN := Lib.hid (an.ext hu2)
  obtain ⟨bo, bn1, bn2, bn3, bso, bm, bq, bl1, bl2, bl3, be⟩ := bn.six
  simp only [Value.agg.injEq, Array.mk.injEq, List.cons.injEq, and_true] at be
  obtain ⟨rfl, rfl, rfl, rfl, rfl, rfl⟩ := be
  have bf0 : ∀ u : Ext ((w.alloc (.cells #[.int .i64 k, .slice n1 n2 n3, .int .i64 so, .int .i64 nn, .int .i64 mm, .slice (some ⟨g, og, none⟩) l2 l3] 25)).alloc (.cells #[.string ⟨#[116, 114, 117, 101]⟩, .string ⟨#[102, 97, 108, 115, 101]⟩, .string ⟨#[61]⟩, .string ⟨#[105, 110]⟩, .string ⟨#[115, 117, 98]⟩, .string ⟨#[97, 100, 106]⟩, .string ⟨#[111, 110]⟩, .string ⟨#[]⟩, .string ⟨#[]⟩, .string ⟨#[]⟩, .string ⟨#[]⟩, .string ⟨#[110, 111, 116]⟩, .string ⟨#[97, 110, 100]⟩, .string ⟨#[111, 114]⟩, .string ⟨#[105, 109, 112, 108, 105, 101, 115]⟩, .string ⟨#[105, 102, 102]⟩, .string ⟨#[115, 111, 109, 101]⟩, .string ⟨#[101, 118, 101, 114, 121]⟩] 9)), u.w.cell? ⟨g, og + 6, none⟩ = some _ := fun u => u.cell ((hu2.cell (p := ⟨g, og + 6, none⟩) (World.block_lt_of_cell? w _ bc0) (by simp)).trans bc0)
  have bf1 : ∀ u : Ext ((w.alloc (.cells #[.int .i64 k, .slice n1 n2 n3, .int .i64 so, .int .i64 nn, .int .i64 mm, .slice (some ⟨g, og, none⟩) l2 l3] 25)).alloc (.cells #[.string ⟨#[116, 114, 117, 101]⟩, .string ⟨#[102, 97, 108, 115, 101]⟩, .string ⟨#[61]⟩, .string ⟨#[105, 110]⟩, .string ⟨#[115, 117, 98]⟩, .string ⟨#[97, 100, 106]⟩, .string ⟨#[111, 110]⟩, .string ⟨#[]⟩, .string ⟨#[]⟩, .string ⟨#[]⟩, .string ⟨#[]⟩, .string ⟨#[110, 111, 116]⟩, .string ⟨#[97, 110, 100]⟩, .string ⟨#[111, 114]⟩, .string ⟨#[105, 109, 112, 108, 105, 101, 115]⟩, .string ⟨#[105, 102, 102]⟩, .string ⟨#[115, 111, 109, 101]⟩, .string ⟨#[101, 118, 101, 114, 121]⟩] 9)), u.w.cell? ⟨g, og + 6 + 1, none⟩ = some _ := fun u => u.cell ((hu2.cell (p := ⟨g, og + 6 + 1, none⟩) (World.block_lt_of_cell? w _ bc1) (by simp)).trans bc1)
  have bf2 : ∀ u : Ext ((w.alloc (.cells #[.int .i64 k, .slice n1 n2 n3, .int .i64 so, .int .i64 nn, .int .i64 mm, .slice (some ⟨g, og, none⟩) l2 l3] 25)).alloc (.cells #[.string ⟨#[116, 114, 117, 101]⟩, .string ⟨#[102, 97, 108, 115, 101]⟩, .string ⟨#[61]⟩, .string ⟨#[105, 110]⟩, .string ⟨#[115, 117, 98]⟩, .string ⟨#[97, 100, 106]⟩, .string ⟨#[111, 110]⟩, .string ⟨#[]⟩, .string ⟨#[]⟩, .string ⟨#[]⟩, .string ⟨#[]⟩, .string ⟨#[110, 111, 116]⟩, .string ⟨#[97, 110, 100]⟩, .string ⟨#[111, 114]⟩, .string ⟨#[105, 109, 112, 108, 105, 101, 115]⟩, .string ⟨#[105, 102, 102]⟩, .string ⟨#[115, 111, 109, 101]⟩, .string ⟨#[101, 118, 101, 114, 121]⟩] 9)), u.w.cell? ⟨g, og + 6 + 2, none⟩ = some _ := fun u => u.cell ((hu2.cell (p := ⟨g, og + 6 + 2, none⟩) (World.block_lt_of_cell? w _ bc2) (by simp)).trans bc2)
  have bf3 : ∀ u : Ext ((w.alloc (.cells #[.int .i64 k, .slice n1 n2 n3, .int .i64 so, .int .i64 nn, .int .i64 mm, .slice (some ⟨g, og, none⟩) l2 l3] 25)).alloc (.cells #[.string ⟨#[116, 114, 117, 101]⟩, .string ⟨#[102, 97, 108, 115, 101]⟩, .string ⟨#[61]⟩, .string ⟨#[105, 110]⟩, .string ⟨#[115, 117, 98]⟩, .string ⟨#[97, 100, 106]⟩, .string ⟨#[111, 110]⟩, .string ⟨#[]⟩, .string ⟨#[]⟩, .string ⟨#[]⟩, .string ⟨#[]⟩, .string ⟨#[110, 111, 116]⟩, .string ⟨#[97, 110, 100]⟩, .string ⟨#[111, 114]⟩, .string ⟨#[105, 109, 112, 108, 105, 101, 115]⟩, .string ⟨#[105, 102, 102]⟩, .string ⟨#[115, 111, 109, 101]⟩, .string ⟨#[101, 118, 101, 114, 121]⟩] 9)), u.w.cell? ⟨g, og + 6 + 3, none⟩ = some _ := fun u => u.cell ((hu2.cell (p := ⟨g, og + 6 + 3, none⟩) (World.block_lt_of_cell? w _ bc3) (by simp)).trans bc3)
  have bf4 : ∀ u : Ext ((w.alloc (.cells #[.int .i64 k, .slice n1 n2 n3, .int .i64 so, .int .i64 nn, .int .i64 mm, .slice (some ⟨g, og, none⟩) l2 l3] 25)).alloc (.cells #[.string ⟨#[116, 114, 117, 101]⟩, .string ⟨#[102, 97, 108, 115, 101]⟩, .string ⟨#[61]⟩, .string ⟨#[105, 110]⟩, .string ⟨#[115, 117, 98]⟩, .string ⟨#[97, 100, 106]⟩, .string ⟨#[111, 110]⟩, .string ⟨#[]⟩, .string ⟨#[]⟩, .string ⟨#[]⟩, .string ⟨#[]⟩, .string ⟨#[110, 111, 116]⟩, .string ⟨#[97, 110, 100]⟩, .string ⟨#[111, 114]⟩, .string ⟨#[105, 109, 112, 108, 105, 101, 115]⟩, .string ⟨#[105, 102, 102]⟩, .string ⟨#[115, 111, 109, 101]⟩, .string ⟨#[101, 118, 101, 114, 121]⟩] 9)), u.w.cell? ⟨g, og + 6 + 4, none⟩ = some _ := fun u => u.cell ((hu2.cell (p := ⟨g, og + 6 + 4, none⟩) (World.block_lt_of_cell? w _ bc4) (by simp)).trans bc4)
  have bf5 : ∀ u : Ext ((w.alloc (.cells #[.int .i64 k, .slice n1 n2 n3, .int .i64 so, .int .i64 nn, .int .i64 mm, .slice (some ⟨g, og, none⟩) l2 l3] 25)).alloc (.cells #[.string ⟨#[116, 114, 117, 101]⟩, .string ⟨#[102, 97, 108, 115, 101]⟩, .string ⟨#[61]⟩, .string ⟨#[105, 110]⟩, .string ⟨#[115, 117, 98]⟩, .string ⟨#[97, 100, 106]⟩, .string ⟨#[111, 110]⟩, .string ⟨#[]⟩, .string ⟨#[]⟩, .string ⟨#[]⟩, .string ⟨#[]⟩, .string ⟨#[110, 111, 116]⟩, .string ⟨#[97, 110, 100]⟩, .string ⟨#[111, 114]⟩, .string ⟨#[105, 109, 112, 108, 105, 101, 115]⟩, .string ⟨#[105, 102, 102]⟩, .string ⟨#[115, 111, 109, 101]⟩, .string ⟨#[101, 118, 101, 114, 121]⟩] 9)), u.w.cell? ⟨g, og + 6 + 5, none⟩ = some _ := fun u => u.cell ((hu2.cell (p := ⟨g, og + 6 + 5, none⟩) (World.block_lt_of_cell? w _ bc5) (by simp)).trans bc5)
  have bN := Lib.hid (bn.ext hu2)
  have HA := Lib.hid ha
  have HB := Lib.hid hb
  have lW : W.length ≤ 10 := by
    have hk : k = 2 ∨ k = 3 ∨ k = 4 ∨ k = 5 ∨ k = 6 ∨ k = 7 ∨ k = 8 ∨ k = 9 ∨ k = 10 ∨ k = 11 ∨ k = 12 ∨ k = 13 ∨ k = 14 ∨ k = 15 ∨ k = 16 ∨ k = 17 := by omega
    rcases hk with rfl | rfl | rfl | rfl | rfl | rfl | rfl | rfl | rfl | rfl | rfl | rfl | rfl | rfl | rfl | rfl <;> (cases hW; simp)
  have sm0 : 1 + sa.length ≤ 9223372036854775807 := by omega
  have sm1 : 1 + sa.length + 2 ≤ 9223372036854775807 := by omega
  have sm2 : 1 + sa.length + 2 + W.length ≤ 9223372036854775807 := by omega
  have sm3 : 1 + sa.length + 2 + W.length + 2 ≤ 9223372036854775807 := by omega
  have sm4 : 1 + sa.length + 2 + W.length + 2 + sb.length ≤ 9223372036854775807 := by omega
  have sm5 : 1 + sa.length + 2 + W.length + 2 + sb.length + 1 ≤ 9223372036854775807 := by omega
  clear hu2 hb1 hb2 hc hW ha hb an bn ac0 ac1 ac2 ac3 ac4 ac5 bc0 bc1 bc2 bc3 bc4 bc5
  go_enter Tryz.func21, Tryz.ntmps21
  go_wp2_with fail
  refine wp_region_seg_all [4, 18] [] [0, 1, 2, 3, 4, 5, 6, 7, 8, 9, 10, 11, 12, 13, 14, 15, 16, 17, 18, 19, 20, 21] (by kernel_rfl) (by kernel_rfl) ?_
  iterate 4 (refine seg_plain rfl rfl rfl rfl rfl ?_; intro K' hK'; go_big_quiet_op; go_big_quiet_on)
  refine seg_call rfl rfl rfl rfl (fun w => by go_simp) (fun w hu hd => (HA.out _ _ (HU2.out.trans_ext hu) (aN.out.ext hu)).mono fun e w' h => ⟨h.1, h.2⟩) ?_
  simp only [Act.put, List.setIfInBounds_toArray, List.set_cons_zero, List.set_cons_succ]
  iterate 13 (refine seg_plain rfl rfl rfl rfl rfl ?_; intro K' hK'; go_big_quiet_op; go_big_quiet_on)
  refine seg_call rfl rfl rfl rfl (fun w => by go_simp) (fun w hu hd => (HB.out _ _ (HU2.out.trans_ext hu) (bN.out.ext hu)).mono fun e w' h => ⟨h.1, h.2⟩) ?_
  simp only [Act.put, List.setIfInBounds_toArray, List.set_cons_zero, List.set_cons_succ]
  iterate 3 (refine seg_plain rfl rfl rfl rfl rfl ?_; intro K' hK'; go_big_quiet_op; go_big_quiet_on)
  intro w9 hg
  have HU3 := Lib.hid (HU2.out.trans_ext hg.up)
  clear hg
  go_wp2_with fail
  go_ret
  exact ⟨congrArg (fun z => Ending.returned (.string z)) (show ByteArray.mk [40].toArray ++ ByteArray.mk sa.toArray ++ ByteArray.mk [41, 32].toArray ++ ByteArray.mk W.toArray ++ ByteArray.mk [32, 40].toArray ++ ByteArray.mk sb.toArray ++ ByteArray.mk [41].toArray = ⟨([40] ++ sa ++ [41, 32] ++ W ++ [32, 40] ++ sb ++ [41]).toArray⟩ by simp only [ByteArray.mk_append_mk]), HU3.out⟩
set_option maxRecDepth 100000 in
set_option maxHeartbeats 6400000 in
theorem full_quant (w : World) (k : Nat) (n2 n3 l2 l3 : Nat) (so nn mm : Int) (W : List UInt8) (hW : wordsF[k]? = some W) (hk : 16 ≤ k ∧ k < 18) (g og gn ogn : Nat) (P : Nat → Prop) (a : Nd) (x sa : List UInt8) (hl2 : 1 ≤ l2) (hn2 : 1 ≤ n2) (hy : w.cell? ⟨gn, ogn, none⟩ = some (sV x)) (hlx : x.length ≤ 1000000000000) (hly : sa.length ≤ 1000000000000) (hx : NdsV w P g og [a]) (ha : Says w P a sa) :
    Calls Tryz.prog 21 #[.agg #[.int .i64 k, .slice (some ⟨gn, ogn, none⟩) n2 n3, .int .i64 so, .int .i64 nn, .int .i64 mm, .slice (some ⟨g, og, none⟩) l2 l3]] w fun e w' => e = .returned (.string ⟨(W ++ [32] ++ sortW so ++ [32] ++ x ++ [58, 32] ++ sa).toArray⟩) ∧ Upto [] w w' := by
  have hu2 : Upto [] w ((w.alloc (.cells #[.int .i64 k, .slice (some ⟨gn, ogn, none⟩) n2 n3, .int .i64 so, .int .i64 nn, .int .i64 mm, .slice (some ⟨g, og, none⟩) l2 l3] 25)).alloc (.cells #[.string ⟨#[116, 114, 117, 101]⟩, .string ⟨#[102, 97, 108, 115, 101]⟩, .string ⟨#[61]⟩, .string ⟨#[105, 110]⟩, .string ⟨#[115, 117, 98]⟩, .string ⟨#[97, 100, 106]⟩, .string ⟨#[111, 110]⟩, .string ⟨#[]⟩, .string ⟨#[]⟩, .string ⟨#[]⟩, .string ⟨#[]⟩, .string ⟨#[110, 111, 116]⟩, .string ⟨#[97, 110, 100]⟩, .string ⟨#[111, 114]⟩, .string ⟨#[105, 109, 112, 108, 105, 101, 115]⟩, .string ⟨#[105, 102, 102]⟩, .string ⟨#[115, 111, 109, 101]⟩, .string ⟨#[101, 118, 101, 114, 121]⟩] 9)) := ((Upto.refl [] w).alloc _).alloc _
  have HU2 := Lib.hid hu2
  have hb1 := alloc_old (new_at w (.cells #[.int .i64 k, .slice (some ⟨gn, ogn, none⟩) n2 n3, .int .i64 so, .int .i64 nn, .int .i64 mm, .slice (some ⟨g, og, none⟩) l2 l3] 25)) (.cells #[.string ⟨#[116, 114, 117, 101]⟩, .string ⟨#[102, 97, 108, 115, 101]⟩, .string ⟨#[61]⟩, .string ⟨#[105, 110]⟩, .string ⟨#[115, 117, 98]⟩, .string ⟨#[97, 100, 106]⟩, .string ⟨#[111, 110]⟩, .string ⟨#[]⟩, .string ⟨#[]⟩, .string ⟨#[]⟩, .string ⟨#[]⟩, .string ⟨#[110, 111, 116]⟩, .string ⟨#[97, 110, 100]⟩, .string ⟨#[111, 114]⟩, .string ⟨#[105, 109, 112, 108, 105, 101, 115]⟩, .string ⟨#[105, 102, 102]⟩, .string ⟨#[115, 111, 109, 101]⟩, .string ⟨#[101, 118, 101, 114, 121]⟩] 9)
  have hb2 := new_at1 w (.cells #[.int .i64 k, .slice (some ⟨gn, ogn, none⟩) n2 n3, .int .i64 so, .int .i64 nn, .int .i64 mm, .slice (some ⟨g, og, none⟩) l2 l3] 25) (.cells #[.string ⟨#[116, 114, 117, 101]⟩, .string ⟨#[102, 97, 108, 115, 101]⟩, .string ⟨#[61]⟩, .string ⟨#[105, 110]⟩, .string ⟨#[115, 117, 98]⟩, .string ⟨#[97, 100, 106]⟩, .string ⟨#[111, 110]⟩, .string ⟨#[]⟩, .string ⟨#[]⟩, .string ⟨#[]⟩, .string ⟨#[]⟩, .string ⟨#[110, 111, 116]⟩, .string ⟨#[97, 110, 100]⟩, .string ⟨#[111, 114]⟩, .string ⟨#[105, 109, 112, 108, 105, 101, 115]⟩, .string ⟨#[105, 102, 102]⟩, .string ⟨#[115, 111, 109, 101]⟩, .string ⟨#[101, 118, 101, 114, 121]⟩] 9)
  have hc : ((w.alloc (.cells #[.int .i64 k, .slice (some ⟨gn, ogn, none⟩) n2 n3, .int .i64 so, .int .i64 nn, .int .i64 mm, .slice (some ⟨g, og, none⟩) l2 l3] 25)).alloc (.cells #[.string ⟨#[116, 114, 117, 101]⟩, .string ⟨#[102, 97, 108, 115, 101]⟩, .string ⟨#[61]⟩, .string ⟨#[105, 110]⟩, .string ⟨#[115, 117, 98]⟩, .string ⟨#[97, 100, 106]⟩, .string ⟨#[111, 110]⟩, .string ⟨#[]⟩, .string ⟨#[]⟩, .string ⟨#[]⟩, .string ⟨#[]⟩, .string ⟨#[110, 111, 116]⟩, .string ⟨#[97, 110, 100]⟩, .string ⟨#[111, 114]⟩, .string ⟨#[105, 109, 112, 108, 105, 101, 115]⟩, .string ⟨#[105, 102, 102]⟩, .string ⟨#[115, 111, 109, 101]⟩, .string ⟨#[101, 118, 101, 114, 121]⟩] 9)).cell? ⟨w.heap.size + 1, k, none⟩ = some (.string ⟨W.toArray⟩) := by
    rw [cell_of hb2]
    have hk : k = 2 ∨ k = 3 ∨ k = 4 ∨ k = 5 ∨ k = 6 ∨ k = 7 ∨ k = 8 ∨ k = 9 ∨ k = 10 ∨ k = 11 ∨ k = 12 ∨ k = 13 ∨ k = 14 ∨ k = 15 ∨ k = 16 ∨ k = 17 := by omega
    rcases hk with rfl | rfl | rfl | rfl | rfl | rfl | rfl | rfl | rfl | rfl | rfl | rfl | rfl | rfl | rfl | rfl <;> (cases hW; rfl)
  have q0 : ¬ ((k : Int) < 2) := by omega
  have q1 : ¬ ((k : Int) < 7) := by omega
  have q2 : ((k : Int) == 7) = false := by simp; omega
  have q3 : ((k : Int) == 8) = false := by simp; omega
  have q4 : ((k : Int) == 9) = false := by simp; omega
  have q5 : ((k : Int) == 10) = false := by simp; omega
  have q6 : ((k : Int) == 11) = false := by simp; omega
  have q7 : ¬ ((k : Int) < 16) := by omega
  have q8 : (0 : Int) < l2 := by omega
  have q9 : (0 : Int) < n2 := by omega
  have q10 : (k : Int) < 18 := by omega
  have q11 : (0 : Int) ≤ k := by omega
  obtain ⟨xa0, xa1, xa2, xa3, xa4, xa5⟩ := cells6 hb1
  obtain ⟨ya0, ya1, ya2, ya3, ya4, ya5⟩ := frees6 hb1
  have e0 : ∀ u : Ext ((w.alloc (.cells #[.int .i64 k, .slice (some ⟨gn, ogn, none⟩) n2 n3, .int .i64 so, .int .i64 nn, .int .i64 mm, .slice (some ⟨g, og, none⟩) l2 l3] 25)).alloc (.cells #[.string ⟨#[116, 114, 117, 101]⟩, .string ⟨#[102, 97, 108, 115, 101]⟩, .string ⟨#[61]⟩, .string ⟨#[105, 110]⟩, .string ⟨#[115, 117, 98]⟩, .string ⟨#[97, 100, 106]⟩, .string ⟨#[111, 110]⟩, .string ⟨#[]⟩, .string ⟨#[]⟩, .string ⟨#[]⟩, .string ⟨#[]⟩, .string ⟨#[110, 111, 116]⟩, .string ⟨#[97, 110, 100]⟩, .string ⟨#[111, 114]⟩, .string ⟨#[105, 109, 112, 108, 105, 101, 115]⟩, .string ⟨#[105, 102, 102]⟩, .string ⟨#[115, 111, 109, 101]⟩, .string ⟨#[101, 118, 101, 114, 121]⟩] 9)), u.w.cell? ⟨w.heap.size, 0, none⟩ = some (.int .i64 k) := fun u => u.cell (cell_of hb1 0)
  have e1 : ∀ u : Ext ((w.alloc (.cells #[.int .i64 k, .slice (some ⟨gn, ogn, none⟩) n2 n3, .int .i64 so, .int .i64 nn, .int .i64 mm, .slice (some ⟨g, og, none⟩) l2 l3] 25)).alloc (.cells #[.string ⟨#[116, 114, 117, 101]⟩, .string ⟨#[102, 97, 108, 115, 101]⟩, .string ⟨#[61]⟩, .string ⟨#[105, 110]⟩, .string ⟨#[115, 117, 98]⟩, .string ⟨#[97, 100, 106]⟩, .string ⟨#[111, 110]⟩, .string ⟨#[]⟩, .string ⟨#[]⟩, .string ⟨#[]⟩, .string ⟨#[]⟩, .string ⟨#[110, 111, 116]⟩, .string ⟨#[97, 110, 100]⟩, .string ⟨#[111, 114]⟩, .string ⟨#[105, 109, 112, 108, 105, 101, 115]⟩, .string ⟨#[105, 102, 102]⟩, .string ⟨#[115, 111, 109, 101]⟩, .string ⟨#[101, 118, 101, 114, 121]⟩] 9)), u.w.cell? ⟨w.heap.size, 1, none⟩ = some (.slice (some ⟨gn, ogn, none⟩) n2 n3) := fun u => u.cell (cell_of hb1 1)
  have e2 : ∀ u : Ext ((w.alloc (.cells #[.int .i64 k, .slice (some ⟨gn, ogn, none⟩) n2 n3, .int .i64 so, .int .i64 nn, .int .i64 mm, .slice (some ⟨g, og, none⟩) l2 l3] 25)).alloc (.cells #[.string ⟨#[116, 114, 117, 101]⟩, .string ⟨#[102, 97, 108, 115, 101]⟩, .string ⟨#[61]⟩, .string ⟨#[105, 110]⟩, .string ⟨#[115, 117, 98]⟩, .string ⟨#[97, 100, 106]⟩, .string ⟨#[111, 110]⟩, .string ⟨#[]⟩, .string ⟨#[]⟩, .string ⟨#[]⟩, .string ⟨#[]⟩, .string ⟨#[110, 111, 116]⟩, .string ⟨#[97, 110, 100]⟩, .string ⟨#[111, 114]⟩, .string ⟨#[105, 109, 112, 108, 105, 101, 115]⟩, .string ⟨#[105, 102, 102]⟩, .string ⟨#[115, 111, 109, 101]⟩, .string ⟨#[101, 118, 101, 114, 121]⟩] 9)), u.w.cell? ⟨w.heap.size, 2, none⟩ = some (.int .i64 so) := fun u => u.cell (cell_of hb1 2)
  have e5 : ∀ u : Ext ((w.alloc (.cells #[.int .i64 k, .slice (some ⟨gn, ogn, none⟩) n2 n3, .int .i64 so, .int .i64 nn, .int .i64 mm, .slice (some ⟨g, og, none⟩) l2 l3] 25)).alloc (.cells #[.string ⟨#[116, 114, 117, 101]⟩, .string ⟨#[102, 97, 108, 115, 101]⟩, .string ⟨#[61]⟩, .string ⟨#[105, 110]⟩, .string ⟨#[115, 117, 98]⟩, .string ⟨#[97, 100, 106]⟩, .string ⟨#[111, 110]⟩, .string ⟨#[]⟩, .string ⟨#[]⟩, .string ⟨#[]⟩, .string ⟨#[]⟩, .string ⟨#[110, 111, 116]⟩, .string ⟨#[97, 110, 100]⟩, .string ⟨#[111, 114]⟩, .string ⟨#[105, 109, 112, 108, 105, 101, 115]⟩, .string ⟨#[105, 102, 102]⟩, .string ⟨#[115, 111, 109, 101]⟩, .string ⟨#[101, 118, 101, 114, 121]⟩] 9)), u.w.cell? ⟨w.heap.size, 5, none⟩ = some (.slice (some ⟨g, og, none⟩) l2 l3) := fun u => u.cell (cell_of hb1 5)
  have ew : ∀ u : Ext ((w.alloc (.cells #[.int .i64 k, .slice (some ⟨gn, ogn, none⟩) n2 n3, .int .i64 so, .int .i64 nn, .int .i64 mm, .slice (some ⟨g, og, none⟩) l2 l3] 25)).alloc (.cells #[.string ⟨#[116, 114, 117, 101]⟩, .string ⟨#[102, 97, 108, 115, 101]⟩, .string ⟨#[61]⟩, .string ⟨#[105, 110]⟩, .string ⟨#[115, 117, 98]⟩, .string ⟨#[97, 100, 106]⟩, .string ⟨#[111, 110]⟩, .string ⟨#[]⟩, .string ⟨#[]⟩, .string ⟨#[]⟩, .string ⟨#[]⟩, .string ⟨#[110, 111, 116]⟩, .string ⟨#[97, 110, 100]⟩, .string ⟨#[111, 114]⟩, .string ⟨#[105, 109, 112, 108, 105, 101, 115]⟩, .string ⟨#[105, 102, 102]⟩, .string ⟨#[115, 111, 109, 101]⟩, .string ⟨#[101, 118, 101, 114, 121]⟩] 9)), u.w.cell? ⟨w.heap.size + 1, k, none⟩ = some (.string ⟨W.toArray⟩) := fun u => u.cell hc
  have ex : ∀ u : Ext ((w.alloc (.cells #[.int .i64 k, .slice (some ⟨gn, ogn, none⟩) n2 n3, .int .i64 so, .int .i64 nn, .int .i64 mm, .slice (some ⟨g, og, none⟩) l2 l3] 25)).alloc (.cells #[.string ⟨#[116, 114, 117, 101]⟩, .string ⟨#[102, 97, 108, 115, 101]⟩, .string ⟨#[61]⟩, .string ⟨#[105, 110]⟩, .string ⟨#[115, 117, 98]⟩, .string ⟨#[97, 100, 106]⟩, .string ⟨#[111, 110]⟩, .string ⟨#[]⟩, .string ⟨#[]⟩, .string ⟨#[]⟩, .string ⟨#[]⟩, .string ⟨#[110, 111, 116]⟩, .string ⟨#[97, 110, 100]⟩, .string ⟨#[111, 114]⟩, .string ⟨#[105, 109, 112, 108, 105, 101, 115]⟩, .string ⟨#[105, 102, 102]⟩, .string ⟨#[115, 111, 109, 101]⟩, .string ⟨#[101, 118, 101, 114, 121]⟩] 9)), u.w.cell? ⟨gn, ogn, none⟩ = some (.string ⟨x.toArray⟩) := fun u => u.cell ((hu2.cell (p := ⟨gn, ogn, none⟩) (World.block_lt_of_cell? w _ hy) (by simp)).trans hy)
  unfold NdsV NdsV at hx
  obtain ⟨⟨_, _, _, _, _, _, ac0, ac1, ac2, ac3, ac4, ac5, an⟩, -⟩ := hx
  obtain ⟨ao, an1, an2, an3, aso, am, aq, al1, al2, al3, ae⟩ := an.six
  simp only [Value.agg.injEq, Array.mk.injEq, List.cons.injEq, and_true] at ae
  obtain ⟨rfl, rfl, rfl, rfl, rfl, rfl⟩ := ae
  have af0 : ∀ u : Ext ((w.alloc (.cells #[.int .i64 k, .slice (some ⟨gn, ogn, none⟩) n2 n3, .int .i64 so, .int .i64 nn, .int .i64 mm, .slice (some ⟨g, og, none⟩) l2 l3] 25)).alloc (.cells #[.string ⟨#[116, 114, 117, 101]⟩, .string ⟨#[102, 97, 108, 115, 101]⟩, .string ⟨#[61]⟩, .string ⟨#[105, 110]⟩, .string ⟨#[115, 117, 98]⟩, .string ⟨#[97, 100, 106]⟩, .string ⟨#[111, 110]⟩, .string ⟨#[]⟩, .string ⟨#[]⟩, .string ⟨#[]⟩, .string ⟨#[]⟩, .string ⟨#[110, 111, 116]⟩, .string ⟨#[97, 110, 100]⟩, .string ⟨#[111, 114]⟩, .string ⟨#[105, 109, 112, 108, 105, 101, 115]⟩, .string ⟨#[105, 102, 102]⟩, .string ⟨#[115, 111, 109, 101]⟩, .string ⟨#[101, 118, 101, 114, 121]⟩] 9)), u.w.cell? ⟨g, og, none⟩ = some _ := fun u => u.cell ((hu2.cell (p := ⟨g, og, none⟩) (World.block_lt_of_cell? w _ ac0) (by simp)).trans ac0)
  have af1 : ∀ u : Ext ((w.alloc (.cells #[.int .i64 k, .slice (some ⟨gn, ogn, none⟩) n2 n3, .int .i64 so, .int .i64 nn, .int .i64 mm, .slice (some ⟨g, og, none⟩) l2 l3] 25)).alloc (.cells #[.string ⟨#[116, 114, 117, 101]⟩, .string ⟨#[102, 97, 108, 115, 101]⟩, .string ⟨#[61]⟩, .string ⟨#[105, 110]⟩, .string ⟨#[115, 117, 98]⟩, .string ⟨#[97, 100, 106]⟩, .string ⟨#[111, 110]⟩, .string ⟨#[]⟩, .string ⟨#[]⟩, .string ⟨#[]⟩, .string ⟨#[]⟩, .string ⟨#[110, 111, 116]⟩, .string ⟨#[97, 110, 100]⟩, .string ⟨#[111, 114]⟩, .string ⟨#[105, 109, 112, 108, 105, 101, 115]⟩, .string ⟨#[105, 102, 102]⟩, .string ⟨#[115, 111, 109, 101]⟩, .string ⟨#[101, 118, 101, 114, 121]⟩] 9)), u.w.cell? ⟨g, og + 1, none⟩ = some _ := fun u => u.cell ((hu2.cell (p := ⟨g, og + 1, none⟩) (World.block_lt_of_cell? w _ ac1) (by simp)).trans ac1)
  have af2 : ∀ u : Ext ((w.alloc (.cells #[.int .i64 k, .slice (some ⟨gn, ogn, none⟩) n2 n3, .int .i64 so, .int .i64 nn, .int .i64 mm, .slice (some ⟨g, og, none⟩) l2 l3] 25)).alloc (.cells #[.string ⟨#[116, 114, 117, 101]⟩, .string ⟨#[102, 97, 108, 115, 101]⟩, .string ⟨#[61]⟩, .string ⟨#[105, 110]⟩, .string ⟨#[115, 117, 98]⟩, .string ⟨#[97, 100, 106]⟩, .string ⟨#[111, 110]⟩, .string ⟨#[]⟩, .string ⟨#[]⟩, .string ⟨#[]⟩, .string ⟨#[]⟩, .string ⟨#[110, 111, 116]⟩, .string ⟨#[97, 110, 100]⟩, .string ⟨#[111, 114]⟩, .string ⟨#[105, 109, 112, 108, 105, 101, 115]⟩, .string ⟨#[105, 102, 102]⟩, .string ⟨#[115, 111, 109, 101]⟩, .string ⟨#[101, 118, 101, 114, 121]⟩] 9)), u.w.cell? ⟨g, og + 2, none⟩ = some _ := fun u => u.cell ((hu2.cell (p := ⟨g, og + 2, none⟩) (World.block_lt_of_cell? w _ ac2) (by simp)).trans ac2)
  have af3 : ∀ u : Ext ((w.alloc (.cells #[.int .i64 k, .slice (some ⟨gn, ogn, none⟩) n2 n3, .int .i64 so, .int .i64 nn, .int .i64 mm, .slice (some ⟨g, og, none⟩) l2 l3] 25)).alloc (.cells #[.string ⟨#[116, 114, 117, 101]⟩, .string ⟨#[102, 97, 108, 115, 101]⟩, .string ⟨#[61]⟩, .string ⟨#[105, 110]⟩, .string ⟨#[115, 117, 98]⟩, .string ⟨#[97, 100, 106]⟩, .string ⟨#[111, 110]⟩, .string ⟨#[]⟩, .string ⟨#[]⟩, .string ⟨#[]⟩, .string ⟨#[]⟩, .string ⟨#[110, 111, 116]⟩, .string ⟨#[97, 110, 100]⟩, .string ⟨#[111, 114]⟩, .string ⟨#[105, 109, 112, 108, 105, 101, 115]⟩, .string ⟨#[105, 102, 102]⟩, .string ⟨#[115, 111, 109, 101]⟩, .string ⟨#[101, 118, 101, 114, 121]⟩] 9)), u.w.cell? ⟨g, og + 3, none⟩ = some _ := fun u => u.cell ((hu2.cell (p := ⟨g, og + 3, none⟩) (World.block_lt_of_cell? w _ ac3) (by simp)).trans ac3)
  have af4 : ∀ u : Ext ((w.alloc (.cells #[.int .i64 k, .slice (some ⟨gn, ogn, none⟩) n2 n3, .int .i64 so, .int .i64 nn, .int .i64 mm, .slice (some ⟨g, og, none⟩) l2 l3] 25)).alloc (.cells #[.string ⟨#[116, 114, 117, 101]⟩, .string ⟨#[102, 97, 108, 115, 101]⟩, .string ⟨#[61]⟩, .string ⟨#[105, 110]⟩, .string ⟨#[115, 117, 98]⟩, .string ⟨#[97, 100, 106]⟩, .string ⟨#[111, 110]⟩, .string ⟨#[]⟩, .string ⟨#[]⟩, .string ⟨#[]⟩, .string ⟨#[]⟩, .string ⟨#[110, 111, 116]⟩, .string ⟨#[97, 110, 100]⟩, .string ⟨#[111, 114]⟩, .string ⟨#[105, 109, 112, 108, 105, 101, 115]⟩, .string ⟨#[105, 102, 102]⟩, .string ⟨#[115, 111, 109, 101]⟩, .string ⟨#[101, 118, 101, 114, 121]⟩] 9)), u.w.cell? ⟨g, og + 4, none⟩ = some _ := fun u => u.cell ((hu2.cell (p := ⟨g, og + 4, none⟩) (World.block_lt_of_cell? w _ ac4) (by simp)).trans ac4)
  have af5 : ∀ u : Ext ((w.alloc (.cells #[.int .i64 k, .slice (some ⟨gn, ogn, none⟩) n2 n3, .int .i64 so, .int .i64 nn, .int .i64 mm, .slice (some ⟨g, og, none⟩) l2 l3] 25)).alloc (.cells #[.string ⟨#[116, 114, 117, 101]⟩, .string ⟨#[102, 97, 108, 115, 101]⟩, .string ⟨#[61]⟩, .string ⟨#[105, 110]⟩, .string ⟨#[115, 117, 98]⟩, .string ⟨#[97, 100, 106]⟩, .string ⟨#[111, 110]⟩, .string ⟨#[]⟩, .string ⟨#[]⟩, .string ⟨#[]⟩, .string ⟨#[]⟩, .string ⟨#[110, 111, 116]⟩, .string ⟨#[97, 110, 100]⟩, .string ⟨#[111, 114]⟩, .string ⟨#[105, 109, 112, 108, 105, 101, 115]⟩, .string ⟨#[105, 102, 102]⟩, .string ⟨#[115, 111, 109, 101]⟩, .string ⟨#[101, 118, 101, 114, 121]⟩] 9)), u.w.cell? ⟨g, og + 5, none⟩ = some _ := fun u => u.cell ((hu2.cell (p := ⟨g, og + 5, none⟩) (World.block_lt_of_cell? w _ ac5) (by simp)).trans ac5)
  have aN := Lib.hid (an.ext hu2)
  have HA := Lib.hid ha
  have lW : W.length ≤ 10 := by
    have hk : k = 2 ∨ k = 3 ∨ k = 4 ∨ k = 5 ∨ k = 6 ∨ k = 7 ∨ k = 8 ∨ k = 9 ∨ k = 10 ∨ k = 11 ∨ k = 12 ∨ k = 13 ∨ k = 14 ∨ k = 15 ∨ k = 16 ∨ k = 17 := by omega
    rcases hk with rfl | rfl | rfl | rfl | rfl | rfl | rfl | rfl | rfl | rfl | rfl | rfl | rfl | rfl | rfl | rfl <;> (cases hW; simp)
  have lS : (sortW so).length ≤ 10 := by unfold sortW; split; simp; split; simp; split; simp; split <;> simp
  have sm0 : W.length + 1 ≤ 9223372036854775807 := by omega
  have sm1 : W.length + 1 + (sortW so).length ≤ 9223372036854775807 := by omega
  have sm2 : W.length + 1 + (sortW so).length + 1 ≤ 9223372036854775807 := by omega
  have sm3 : W.length + 1 + (sortW so).length + 1 + x.length ≤ 9223372036854775807 := by omega
  have sm4 : W.length + 1 + (sortW so).length + 1 + x.length + 2 ≤ 9223372036854775807 := by omega
  have sm5 : W.length + 1 + (sortW so).length + 1 + x.length + 2 + sa.length ≤ 9223372036854775807 := by omega
  clear hu2 hb1 hb2 hc hW ha an ac0 ac1 ac2 ac3 ac4 ac5 hy
  go_enter Tryz.func21, Tryz.ntmps21
  go_wp2_with fail
  refine wp_region_seg_all [8, 21] [] [0, 1, 2, 3, 4, 5, 6, 7, 8, 9, 10, 11, 12, 13, 14, 15, 16, 17, 18, 19, 20, 21, 22, 23] (by kernel_rfl) (by kernel_rfl) ?_
  iterate 8 (refine seg_plain rfl rfl rfl rfl rfl ?_; intro K' hK'; go_big_quiet_op; go_big_quiet_on)
  refine seg_call rfl rfl rfl rfl (fun w => by go_simp) (fun w hu hd => (sorted_calls so w).mono fun e w' h => ⟨h.1, h.2⟩) ?_
  simp only [Act.put, List.setIfInBounds_toArray, List.set_cons_zero, List.set_cons_succ]
  iterate 12 (refine seg_plain rfl rfl rfl rfl rfl ?_; intro K' hK'; go_big_quiet_op; go_big_quiet_on)
  refine seg_call rfl rfl rfl rfl (fun w => by go_simp) (fun w hu hd => (HA.out _ _ (HU2.out.trans_ext hu) (aN.out.ext hu)).mono fun e w' h => ⟨h.1, h.2⟩) ?_
  simp only [Act.put, List.setIfInBounds_toArray, List.set_cons_zero, List.set_cons_succ]
  iterate 2 (refine seg_plain rfl rfl rfl rfl rfl ?_; intro K' hK'; go_big_quiet_op; go_big_quiet_on)
  intro w9 hg
  have HU3 := Lib.hid (HU2.out.trans_ext hg.up)
  clear hg
  go_wp2_with fail
  go_ret
  exact ⟨congrArg (fun z => Ending.returned (.string z)) (show ByteArray.mk W.toArray ++ ByteArray.mk [32].toArray ++ ByteArray.mk (sortW so).toArray ++ ByteArray.mk [32].toArray ++ ByteArray.mk x.toArray ++ ByteArray.mk [58, 32].toArray ++ ByteArray.mk sa.toArray = ⟨(W ++ [32] ++ (sortW so) ++ [32] ++ x ++ [58, 32] ++ sa).toArray⟩ by simp only [ByteArray.mk_append_mk]), HU3.out⟩
end Go.Proofs.YtkhbpebpljdifaaGreatDoor
namespace Go.Proofs.YtkhbpebpljdifaaGreatDoor
open Go.PL
def Alike (l k : List Tok) : Prop := l.map Tok.key = k.map Tok.key
section
variable {l k : List Tok} (h : Alike l k)
include h
theorem al_len : l.length = k.length := by simpa using congrArg List.length h
theorem al_key (s : PS) : (tkAt l s).key = (tkAt k s).key := by
  have := congrArg (fun x => x[s.nx]?) h
  simp only [List.getElem?_map] at this
  unfold tkAt
  rw [List.getD_eq_getElem?_getD, List.getD_eq_getElem?_getD]
  cases hl : l[s.nx]? <;> cases hk : k[s.nx]? <;> rw [hl, hk] at this <;> simp at this ⊢
  exact this
theorem al_kind (s : PS) : (tkAt l s).kind = (tkAt k s).kind := congrArg Prod.fst (al_key h s)
theorem al_text (s : PS) : (tkAt l s).text = (tkAt k s).text := congrArg (fun p => p.2.1) (al_key h s)
theorem al_val (s : PS) : (tkAt l s).val = (tkAt k s).val := congrArg (fun p => p.2.2) (al_key h s)
theorem al_is : isF l = isF k := by funext x s; unfold isF; rw [al_kind h, al_text h]
theorem al_need : needF l = needF k := by funext x s; unfold needF; rw [al_is h]
theorem al_ident : identR l = identR k := by funext s; unfold identR; rw [al_kind h, al_text h]
theorem al_number : numberP l = numberP k := by funext a z s; unfold numberP; simp only [al_kind h, al_val h]
theorem al_first (s : PS) : ∀ (xs : List (List UInt8)) (i : Nat), firstF l s xs i = firstF k s xs i
  | [], _ => rfl
  | x :: xs, i => by unfold firstF; rw [al_is h, al_first s xs]
theorem al_sort : sortP l = sortP k := by funext s; unfold sortP; rw [al_first h]
theorem al_leftLoop (x : List UInt8) (op : Int) (of : Rd) : ∀ n : Nat, leftLoop l x op of n = leftLoop k x op of n
  | 0 => rfl
  | n + 1 => by funext m s; unfold leftLoop; rw [al_is h, al_leftLoop x op of n]
theorem al_left (x : List UInt8) (op : Int) (of : Rd) : leftP l x op of = leftP k x op of := by funext s; unfold leftP; rw [al_leftLoop h, al_len h]
theorem al_ors (of : Rd) : orsP l of = orsP k of := by unfold orsP; rw [al_left h, al_left h]
theorem al_implLoop (of : Rd) : ∀ n : Nat, implLoop l of n = implLoop k of n
  | 0 => rfl
  | n + 1 => by funext m s; unfold implLoop; rw [al_is h, al_implLoop of n]
theorem al_implies (of : Rd) : impliesP l of = impliesP k of := by funext s; unfold impliesP; rw [al_ors h, al_implLoop h, al_len h]
theorem al_formula (of : Rd) : formulaP l of = formulaP k of := by unfold formulaP; rw [al_implies h, al_left h]
theorem al_bind (op : Int) (fm : Rd) : bindP l op fm = bindP k op fm := by unfold bindP; rw [al_sort h, al_ident h, al_need h]
theorem al_paren (fm : Rd) : parenP l fm = parenP k fm := by unfold parenP; rw [al_need h]
theorem al_size : sizeP l = sizeP k := by funext s; unfold sizeP; rw [al_ident h, al_need h, al_number h]
theorem al_one : oneP l = oneP k := by funext s; unfold oneP; rw [al_ident h]
theorem al_callLoop : ∀ n : Nat, callLoop l n = callLoop k n
  | 0 => rfl
  | n + 1 => by funext xs s; unfold callLoop; rw [al_kind h, al_ident h, al_is h, al_need h, al_callLoop n]
theorem al_call (f : List UInt8) : callP l f = callP k f := by funext s; unfold callP; rw [al_is h, al_callLoop h, al_len h]
theorem al_atom : atomP l = atomP k := by
  funext s
  unfold atomP
  simp only [al_ident h, al_is h, al_number h, al_first h, al_call h]
theorem al_operand : ∀ d : Nat, operandP l d = operandP k d
  | 0 => rfl
  | d + 1 => by
    funext s
    unfold operandP
    simp only [al_kind h, al_text h, al_size h, al_one h, al_bind h, al_paren h, al_formula h, al_atom h, al_operand d]
theorem al_whole : wholeP l = wholeP k := by unfold wholeP; rw [al_formula h, al_operand h]
theorem al_freeLoop : ∀ n : Nat, freeLoop l n = freeLoop k n
  | 0 => rfl
  | n + 1 => by funext xs s; unfold freeLoop; simp only [al_kind h, al_text h, al_ident h, al_sort h, al_is h, al_need h, al_freeLoop n]
theorem al_free : freeP l = freeP k := by funext s; unfold freeP; rw [al_is h, al_freeLoop h, al_len h]
theorem al_query : queryP l = queryP k := by unfold queryP; rw [al_free h, al_whole h]
theorem al_bare : bareP l = bareP k := by unfold bareP; rw [al_whole h]
end
end Go.Proofs.YtkhbpebpljdifaaGreatDoor
namespace Go.Proofs.YtkhbpebpljdifaaGreatDoor
open Go.PL
def ReadsD (of : Rd) (D i j : Nat) (n : Nd) : Prop := of ⟨i, 0, D⟩ = some (n, ⟨j, 0, D⟩)
def opWd : Nat → List UInt8
  | 0 => [97, 110, 100]
  | 1 => [111, 114]
  | 2 => [105, 109, 112, 108, 105, 101, 115]
  | _ => [105, 102, 102]
def SepD (l : List Tok) (j e : Nat) : Prop := ∀ c, c < 4 → isF l (opWd c) ⟨j, 0, 0⟩ = decide (c = e)
section
variable {l : List Tok} {D i i1 j : Nat} {of : Rd} {x : List UInt8} {op : Int} {n a b : Nd}
theorem isF_dp (x : List UInt8) (j D : Nat) : isF l x ⟨j, 0, D⟩ = isF l x ⟨j, 0, 0⟩ := rfl
theorem leftP_none (hr : ReadsD of D i j n) (h : isF l x ⟨j, 0, 0⟩ = false) : ReadsD (leftP l x op of) D i j n := by
  unfold ReadsD leftP
  rw [show of ⟨i, 0, D⟩ = _ from hr, Option.bind_some]
  simp only [leftLoop]
  rw [isF_dp, h]
  rfl
theorem leftP_one (hr : ReadsD of D i i1 a) (h : isF l x ⟨i1, 0, 0⟩ = true) (hr2 : ReadsD of D (i1 + 1) j b) (h2 : isF l x ⟨j, 0, 0⟩ = false) (hl : 1 ≤ l.length) : ReadsD (leftP l x op of) D i j (.mk op [] 0 0 0 [a, b]) := by
  obtain ⟨m, hm⟩ : ∃ m, l.length = m + 1 := ⟨l.length - 1, by omega⟩
  unfold ReadsD leftP
  rw [show of ⟨i, 0, D⟩ = _ from hr, Option.bind_some, hm]
  simp only [leftLoop]
  rw [isF_dp, h, if_pos rfl, show of (stepF ⟨i1, 0, D⟩) = _ from hr2, Option.bind_some]
  simp only
  rw [isF_dp, h2]
  rfl
theorem impl_none (hr : ReadsD (orsP l of) D i j n) (h : isF l [105, 109, 112, 108, 105, 101, 115] ⟨j, 0, 0⟩ = false) : ReadsD (impliesP l of) D i j n := by
  unfold ReadsD impliesP
  rw [show orsP l of ⟨i, 0, D⟩ = _ from hr, Option.bind_some]
  simp only [implLoop]
  rw [isF_dp, h]
  rfl
theorem impl_one (hr : ReadsD (orsP l of) D i i1 a) (h : isF l [105, 109, 112, 108, 105, 101, 115] ⟨i1, 0, 0⟩ = true) (hr2 : ReadsD (orsP l of) D (i1 + 1) j b) (h2 : isF l [105, 109, 112, 108, 105, 101, 115] ⟨j, 0, 0⟩ = false) (hl : 1 ≤ l.length) : ReadsD (impliesP l of) D i j (.mk 14 [] 0 0 0 [a, b]) := by
  obtain ⟨m, hm⟩ : ∃ m, l.length = m + 1 := ⟨l.length - 1, by omega⟩
  unfold ReadsD impliesP
  rw [show orsP l of ⟨i, 0, D⟩ = _ from hr, Option.bind_some, hm]
  simp only [implLoop]
  rw [isF_dp, h, if_pos rfl, show orsP l of (stepF ⟨i1, 0, D⟩) = _ from hr2, Option.bind_some]
  simp only
  rw [isF_dp, h2]
  rfl
theorem formula_none (hr : ReadsD of D i j n) (hs : SepD l j 4) : ReadsD (formulaP l of) D i j n :=
  leftP_none (impl_none (leftP_none (leftP_none hr (hs 0 (by decide))) (hs 1 (by decide))) (hs 2 (by decide))) (hs 3 (by decide))
theorem formula_one (e : Nat) (he : e < 4) (hr : ReadsD of D i i1 a) (hs : SepD l i1 e) (hr2 : ReadsD of D (i1 + 1) j b) (hs2 : SepD l j 4) (hl : 1 ≤ l.length) : ReadsD (formulaP l of) D i j (.mk (12 + e) [] 0 0 0 [a, b]) := by
  have h0 := hs 0 (by decide)
  have h1 := hs 1 (by decide)
  have h2 := hs 2 (by decide)
  have h3 := hs 3 (by decide)
  have k0 := hs2 0 (by decide)
  have k1 := hs2 1 (by decide)
  have k2 := hs2 2 (by decide)
  have k3 := hs2 3 (by decide)
  have he' : e = 0 ∨ e = 1 ∨ e = 2 ∨ e = 3 := by omega
  rcases he' with rfl | rfl | rfl | rfl
  · exact leftP_none (impl_none (leftP_none (leftP_one hr h0 hr2 k0 hl) k1) k2) k3
  · exact leftP_none (impl_none (leftP_one (leftP_none hr h0) h1 (leftP_none hr2 k0) k1 hl) k2) k3
  · exact leftP_none (impl_one (leftP_none (leftP_none hr h0) h1) h2 (leftP_none (leftP_none hr2 k0) k1) k2 hl) k3
  · exact leftP_one (impl_none (leftP_none (leftP_none hr h0) h1) h2) h3 (impl_none (leftP_none (leftP_none hr2 k0) k1) k2) k3 hl
theorem levelP_reads (hD : D < 256) (hr : ReadsD of (D + 1) (i + 1) j n) : ReadsD (levelP of) D i j n := by
  unfold ReadsD levelP
  have h1 : ¬ D = 256 := by omega
  simp only [if_neg h1, if_true]
  rw [show of ⟨i + 1, 0, D + 1⟩ = _ from hr]
  rfl
theorem tkAt_of {i : Nat} {t : Tok} (h : l[i]? = some t) (e d : Nat) : tkAt l ⟨i, e, d⟩ = t := by
  unfold tkAt
  rw [List.getD_eq_getElem?_getD, h]
  rfl
theorem dropT_at {i : Nat} {t : Tok} {ts : List Tok} (h : l.drop i = t :: ts) : l[i]? = some t ∧ l.drop (i + 1) = ts := by
  have h1 := congrArg (fun x => x[0]?) h
  simp only [List.getElem?_drop, List.getElem?_cons_zero, Nat.add_zero] at h1
  have h2 := congrArg (List.drop 1) h
  rw [List.drop_drop] at h2
  exact ⟨h1, by simpa using h2⟩
def idT (x : List UInt8) : Tok := ⟨1, x, 0, 0, 0⟩
def kyT (x : List UInt8) : Tok := ⟨3, x, 0, 0, 0⟩
def puT (c : UInt8) : Tok := ⟨4, [c], 0, 0, 0⟩
def digF : Nat → Nat → List UInt8
  | 0, n => [UInt8.ofNat (48 + n)]
  | f + 1, n => if n < 10 then [UInt8.ofNat (48 + n)] else digF f (n / 10) ++ [UInt8.ofNat (48 + n % 10)]
def nmT (n : Int) : Tok := ⟨2, digF 3 n.toNat, n.toNat, 0, 0⟩
theorem sep_end {t : Tok} (h : l[j]? = some t) (he : t.key = (0, [], 0) ∨ t.key = (puT 41).key) : SepD l j 4 := by
  intro c hc
  unfold isF
  rw [tkAt_of h]
  have hc' : c = 0 ∨ c = 1 ∨ c = 2 ∨ c = 3 := by omega
  rcases he with he | he
  · have hk : t.kind = 0 := congrArg Prod.fst he
    rw [hk]
    rcases hc' with rfl | rfl | rfl | rfl <;> rfl
  · have hk : t.text = [41] := congrArg (fun p => p.2.1) he
    rw [hk]
    rcases hc' with rfl | rfl | rfl | rfl <;> simp [opWd]
theorem sep_op {e : Nat} (he : e < 4) (h : l[j]? = some (kyT (opWd e))) : SepD l j e := by
  intro c hc
  unfold isF
  rw [tkAt_of h]
  have he' : e = 0 ∨ e = 1 ∨ e = 2 ∨ e = 3 := by omega
  have hc' : c = 0 ∨ c = 1 ∨ c = 2 ∨ c = 3 := by omega
  rcases he' with rfl | rfl | rfl | rfl <;> rcases hc' with rfl | rfl | rfl | rfl <;> rfl
theorem is_tok {t : Tok} (h : l[i]? = some t) (D : Nat) : isF l x ⟨i, 0, D⟩ = ((decide (t.kind = 3) || decide (t.kind = 4)) && decide (t.text = x)) := by
  unfold isF
  rw [tkAt_of h]
  simp
theorem need_tok {t : Tok} (h : l[i]? = some t) (hk : t.kind = 3 ∨ t.kind = 4) (hx : t.text = x) (D : Nat) : needF l x ⟨i, 0, D⟩ = ⟨i + 1, 0, D⟩ := by
  unfold needF
  rw [is_tok h, if_pos (by rcases hk with hk | hk <;> simp [hk, hx])]
  rfl
theorem ident_tok (h : l[i]? = some (idT x)) (D : Nat) : identR l ⟨i, 0, D⟩ = (x, ⟨i + 1, 0, D⟩) := by
  unfold identR
  rw [tkAt_of h]
  rfl
theorem number_tok {n lo hi : Int} (h : l[i]? = some (nmT n)) (h0 : 0 ≤ n) (h1 : lo ≤ n) (h2 : n ≤ hi) (D : Nat) : numberP l lo hi ⟨i, 0, D⟩ = (n, ⟨i + 1, 0, D⟩) := by
  unfold numberP
  rw [tkAt_of h]
  have e : ((n.toNat : Nat) : Int) = n := Int.toNat_of_nonneg h0
  have h3 : ¬ (n < lo ∨ hi < n) := by omega
  simp only [nmT, e, if_neg h3, if_true]
  rfl
theorem sort_tok {s : Nat} (hs : s < 4) (h : l[i]? = some (kyT (sortWords.getD s []))) (D : Nat) : sortP l ⟨i, 0, D⟩ = ((s : Int), ⟨i + 1, 0, D⟩) := by
  have hs' : s = 0 ∨ s = 1 ∨ s = 2 ∨ s = 3 := by omega
  unfold sortP sortWords
  simp only [firstF]
  rw [is_tok h, is_tok h, is_tok h, is_tok h]
  rcases hs' with rfl | rfl | rfl | rfl <;> rfl
end
end Go.Proofs.YtkhbpebpljdifaaGreatDoor
namespace Go.Proofs.YtkhbpebpljdifaaGreatDoor
open Go.PL
section
variable {l : List Tok} {D i j d : Nat} {n : Nd} {x y : List UInt8}
theorem operand_atom {t : Tok} (h : l[i]? = some t) (hk : t.kind = 1) (hr : ReadsD (atomP l) D i j n) : ReadsD (operandP l (d + 1)) D i j n := by
  unfold ReadsD operandP
  simp only
  rw [tkAt_of h, if_neg (by rw [hk]; decide)]
  exact hr
theorem operand_true (h : l[i]? = some (kyT [116, 114, 117, 101])) : ReadsD (operandP l (d + 1)) D i (i + 1) (.mk 0 [] 0 0 0 []) := by
  unfold ReadsD operandP
  simp only
  rw [tkAt_of h]
  simp [kyT, stepF]
theorem operand_false (h : l[i]? = some (kyT [102, 97, 108, 115, 101])) : ReadsD (operandP l (d + 1)) D i (i + 1) (.mk 1 [] 0 0 0 []) := by
  unfold ReadsD operandP
  simp only
  rw [tkAt_of h]
  simp [kyT, stepF]
theorem operand_paren (h : l[i]? = some (puT 40)) (hD : D < 256) (hr : ReadsD (formulaP l (operandP l d)) (D + 1) (i + 1) j n) (hj : l[j]? = some (puT 41)) : ReadsD (operandP l (d + 1)) D i (j + 1) n := by
  unfold ReadsD operandP
  simp only
  rw [tkAt_of h]
  simp only [puT]
  have : ReadsD (parenP l (formulaP l (operandP l d))) D i (j + 1) n := by
    refine levelP_reads hD ?_
    unfold ReadsD
    simp only
    rw [show formulaP l (operandP l d) ⟨i + 1, 0, D + 1⟩ = _ from hr]
    rw [Option.map_some]
    simp only
    rw [need_tok (x := [41]) hj (Or.inr rfl) rfl]
  unfold ReadsD at this
  simpa using this
theorem operand_not (h : l[i]? = some (kyT [110, 111, 116])) (hD : D < 256) (hr : ReadsD (operandP l d) (D + 1) (i + 1) j n) : ReadsD (operandP l (d + 1)) D i j (.mk 11 [] 0 0 0 [n]) := by
  unfold ReadsD operandP
  simp only
  rw [tkAt_of h]
  simp only [kyT]
  have : ReadsD (notP (operandP l d)) D i j (.mk 11 [] 0 0 0 [n]) := by
    refine levelP_reads hD ?_
    unfold ReadsD
    simp only
    rw [show operandP l d ⟨i + 1, 0, D + 1⟩ = _ from hr]
    rfl
  unfold ReadsD at this
  simpa using this
theorem bind_reads {s : Nat} (hs : s < 4) (op : Int) (hD : D < 256) (h1 : l[i + 1]? = some (kyT (sortWords.getD s []))) (h2 : l[i + 2]? = some (idT x)) (h3 : l[i + 3]? = some (puT 58)) {fm : Rd} (hr : ReadsD fm (D + 1) (i + 4) j n) : ReadsD (bindP l op fm) D i j (.mk op [x] s 0 0 [n]) := by
  refine levelP_reads hD ?_
  unfold ReadsD
  simp only
  rw [sort_tok hs h1]
  simp only
  rw [ident_tok h2]
  simp only
  rw [need_tok (i := i + 2 + 1) (x := [58]) h3 (Or.inr rfl) rfl, show fm ⟨i + 2 + 1 + 1, 0, D + 1⟩ = _ from hr]
  rfl
theorem operand_some {s : Nat} (hs : s < 4) (hD : D < 256) (h : l[i]? = some (kyT [115, 111, 109, 101])) (h1 : l[i + 1]? = some (kyT (sortWords.getD s []))) (h2 : l[i + 2]? = some (idT x)) (h3 : l[i + 3]? = some (puT 58)) (hr : ReadsD (formulaP l (operandP l d)) (D + 1) (i + 4) j n) : ReadsD (operandP l (d + 1)) D i j (.mk 16 [x] s 0 0 [n]) := by
  have := bind_reads hs 16 hD h1 h2 h3 hr
  unfold ReadsD at this
  unfold ReadsD operandP
  simp only
  rw [tkAt_of h]
  simp only [kyT]
  simpa using this
theorem operand_every {s : Nat} (hs : s < 4) (hD : D < 256) (h : l[i]? = some (kyT [101, 118, 101, 114, 121])) (h1 : l[i + 1]? = some (kyT (sortWords.getD s []))) (h2 : l[i + 2]? = some (idT x)) (h3 : l[i + 3]? = some (puT 58)) (hr : ReadsD (formulaP l (operandP l d)) (D + 1) (i + 4) j n) : ReadsD (operandP l (d + 1)) D i j (.mk 17 [x] s 0 0 [n]) := by
  have := bind_reads hs 17 hD h1 h2 h3 hr
  unfold ReadsD at this
  unfold ReadsD operandP
  simp only
  rw [tkAt_of h]
  simp only [kyT]
  simpa using this
theorem operand_size {n m : Int} (h0 : 0 ≤ n) (h1 : n < m) (h2 : m ≤ 64) (h : l[i]? = some (kyT [115, 105, 122, 101])) (a1 : l[i + 1]? = some (idT x)) (a2 : l[i + 2]? = some (kyT [109, 111, 100])) (a3 : l[i + 3]? = some (nmT m)) (a4 : l[i + 4]? = some (kyT [105, 115])) (a5 : l[i + 5]? = some (nmT n)) : ReadsD (operandP l (d + 1)) D i (i + 6) (.mk 8 [x] 0 n m []) := by
  unfold ReadsD operandP
  simp only
  rw [tkAt_of h]
  simp only [kyT]
  have e0 : stepF ⟨i, 0, D⟩ = ⟨i + 1, 0, D⟩ := rfl
  have : sizeP l ⟨i, 0, D⟩ = (.mk 8 [x] 0 n m [], ⟨i + 6, 0, D⟩) := by
    unfold sizeP
    simp only
    rw [e0, ident_tok a1]
    simp only
    rw [need_tok (i := i + 1 + 1) (x := [109, 111, 100]) a2 (Or.inl rfl) rfl, number_tok (i := i + 1 + 1 + 1) a3 (by omega) (by omega) (by omega)]
    simp only
    rw [need_tok (i := i + 1 + 1 + 1 + 1) (x := [105, 115]) a4 (Or.inl rfl) rfl, number_tok (i := i + 1 + 1 + 1 + 1 + 1) a5 h0 (by omega) (by omega)]
  simpa using this
theorem operand_one (h : l[i]? = some (kyT [111, 110, 101])) (a1 : l[i + 1]? = some (idT x)) : ReadsD (operandP l (d + 1)) D i (i + 2) (.mk 9 [x] 0 0 0 []) := by
  unfold ReadsD operandP
  simp only
  rw [tkAt_of h]
  simp only [kyT]
  have e0 : stepF ⟨i, 0, D⟩ = ⟨i + 1, 0, D⟩ := rfl
  have : oneP l ⟨i, 0, D⟩ = (.mk 9 [x] 0 0 0 [], ⟨i + 2, 0, D⟩) := by
    unfold oneP
    simp only
    rw [e0, ident_tok a1]
  simpa using this
theorem operand_is {n : Int} (h0 : 0 ≤ n) (h1 : n ≤ 7) (h : l[i]? = some (idT x)) (a1 : l[i + 1]? = some (kyT [105, 115])) (a2 : l[i + 2]? = some (nmT n)) : ReadsD (operandP l (d + 1)) D i (i + 3) (.mk 7 [x] 0 n 0 []) := by
  refine operand_atom h rfl ?_
  have e0 : stepF ⟨i + 1, 0, D⟩ = ⟨i + 2, 0, D⟩ := rfl
  unfold ReadsD atomP
  simp only
  rw [ident_tok h]
  simp only
  rw [is_tok a1, is_tok a1]
  simp only [kyT]
  rw [if_neg (by decide), if_pos (by decide), e0, number_tok a2 h0 h0 h1]
def relT : Nat → Tok
  | 0 => puT 61
  | 1 => kyT [105, 110]
  | 2 => kyT [115, 117, 98]
  | 3 => kyT [97, 100, 106]
  | _ => kyT [111, 110]
theorem operand_two {k : Nat} (hk : k < 5) (h : l[i]? = some (idT x)) (a1 : l[i + 1]? = some (relT k)) (a2 : l[i + 2]? = some (idT y)) : ReadsD (operandP l (d + 1)) D i (i + 3) (.mk (2 + k) [x, y] 0 0 0 []) := by
  refine operand_atom h rfl ?_
  have e0 : stepF ⟨i + 1, 0, D⟩ = ⟨i + 2, 0, D⟩ := rfl
  have hk' : k = 0 ∨ k = 1 ∨ k = 2 ∨ k = 3 ∨ k = 4 := by omega
  unfold ReadsD atomP
  simp only
  rw [ident_tok h]
  simp only [relWords, firstF]
  rw [is_tok a1, is_tok a1, is_tok a1, is_tok a1, is_tok a1, is_tok a1, is_tok a1]
  rcases hk' with rfl | rfl | rfl | rfl | rfl <;> simp [relT, kyT, puT, e0, ident_tok a2]
def argT : List (List UInt8) → List Tok
  | [] => []
  | [x] => [idT x]
  | x :: y :: r => idT x :: puT 44 :: argT (y :: r)
theorem call_reads : ∀ (ys : List (List UInt8)) (k i : Nat) (xs : List (List UInt8)) (rest : List Tok), ys ≠ [] → xs.length + ys.length ≤ 17 → ys.length ≤ k → l.drop i = argT ys ++ puT 41 :: rest → callLoop l k xs ⟨i, 0, D⟩ = some (xs ++ ys, ⟨i + 2 * ys.length, 0, D⟩) ∧ l.drop (i + 2 * ys.length) = rest
  | [], _, _, _, _, h, _, _, _ => absurd rfl h
  | [y], 0, _, _, _, _, _, h, _ => by simp at h
  | y :: z :: r, 0, _, _, _, _, _, h, _ => by simp at h
  | [y], k + 1, i, xs, rest, _, h17, _, h => by
    simp only [argT, List.cons_append, List.nil_append] at h
    obtain ⟨a0, h⟩ := dropT_at h
    obtain ⟨a1, h⟩ := dropT_at h
    simp only [List.length_cons, List.length_nil] at h17
    refine ⟨?_, by simpa using h⟩
    simp only [callLoop, if_true]
    rw [tkAt_of a0]
    rw [if_neg (by simp only [idT]; omega), ident_tok a0]
    simp only
    rw [is_tok a1, if_neg (by simp [puT]), need_tok (x := [41]) a1 (Or.inr rfl) rfl]
    rfl
  | y :: z :: r, k + 1, i, xs, rest, _, h17, hk, h => by
    simp only [argT, List.cons_append] at h
    obtain ⟨a0, h⟩ := dropT_at h
    obtain ⟨a1, h⟩ := dropT_at h
    simp only [List.length_cons] at h17 hk
    have ih := call_reads (z :: r) k (i + 2) (xs ++ [y]) rest (by simp) (by simp; omega) (by simp; omega) h
    have e0 : stepF ⟨i + 1, 0, D⟩ = ⟨i + 2, 0, D⟩ := rfl
    refine ⟨?_, ?_⟩
    · simp only [callLoop, if_true]
      rw [tkAt_of a0]
      rw [if_neg (by simp only [idT]; omega), ident_tok a0]
      simp only
      rw [is_tok a1, if_pos (by simp [puT]), e0, ih.1]
      simp only [List.append_assoc, List.singleton_append, List.length_cons]
      rw [show i + 2 + 2 * (r.length + 1) = i + 2 * (r.length + 1 + 1) by omega]
    · rw [← ih.2]
      simp only [List.length_cons]
      congr 1
      omega
theorem operand_call {f : List UInt8} {ys : List (List UInt8)} {rest : List Tok} (h17 : ys.length ≤ 16) (h : l.drop i = idT f :: puT 40 :: (argT ys ++ puT 41 :: rest)) : ReadsD (operandP l (d + 1)) D i (i + 2 + (if ys = [] then 1 else 2 * ys.length)) (.mk 10 (f :: ys) 0 0 0 []) ∧ l.drop (i + 2 + (if ys = [] then 1 else 2 * ys.length)) = rest := by
  obtain ⟨a0, h⟩ := dropT_at h
  obtain ⟨a1, h⟩ := dropT_at h
  have e0 : stepF ⟨i + 1, 0, D⟩ = ⟨i + 2, 0, D⟩ := rfl
  have key : ∀ {j : Nat}, callP l f ⟨i + 1, 0, D⟩ = some (.mk 10 (f :: ys) 0 0 0 [], ⟨j, 0, D⟩) → ReadsD (operandP l (d + 1)) D i j (.mk 10 (f :: ys) 0 0 0 []) := by
    intro j hc
    refine operand_atom a0 rfl ?_
    unfold ReadsD atomP
    simp only
    rw [ident_tok a0]
    simp only
    rw [is_tok a1, if_pos (by simp [puT])]
    exact hc
  cases ys with
  | nil =>
    simp only [argT, List.nil_append] at h
    obtain ⟨a2, h⟩ := dropT_at h
    refine ⟨key ?_, by simpa using h⟩
    unfold callP
    simp only
    rw [e0, is_tok a2, if_pos (by simp [puT])]
    rfl
  | cons y r =>
    have hl : (argT (y :: r) ++ puT 41 :: rest) ≠ [] := by simp
    have hq : ∀ (zs : List (List UInt8)), zs.length ≤ (argT zs).length := by
      intro zs
      induction zs with
      | nil => simp
      | cons a zs ih =>
        cases zs with
        | nil => simp [argT]
        | cons b zs => simp only [argT, List.length_cons] at ih ⊢; omega
    have hlen : (y :: r).length ≤ l.length := by
      have h1 := congrArg List.length h
      simp only [List.length_drop, List.length_append, List.length_cons] at h1
      have h2 := hq (y :: r)
      simp only [List.length_cons] at h2 ⊢
      omega
    have hr := call_reads (l := l) (D := D) (y :: r) (l.length + 1) (i + 2) [f] rest (by simp) (by simp only [List.length_cons, List.length_nil] at h17 ⊢; omega) (by omega) h
    rw [if_neg (by simp)]
    refine ⟨key ?_, hr.2⟩
    unfold callP
    simp only
    obtain ⟨b0, -⟩ : l[i + 2]? = some (idT y) ∧ True := by
      cases r with
      | nil => exact ⟨(dropT_at h).1, trivial⟩
      | cons z r => exact ⟨(dropT_at h).1, trivial⟩
    rw [e0, is_tok b0, if_neg (by simp [idT]), hr.1]
    rfl
end
end Go.Proofs.YtkhbpebpljdifaaGreatDoor
