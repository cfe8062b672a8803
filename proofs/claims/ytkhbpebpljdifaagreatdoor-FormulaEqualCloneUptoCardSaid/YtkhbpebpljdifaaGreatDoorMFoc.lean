/- Texts merged, in build order: Fm11, Fm12, Fm13, Fm14, Fm15, Fm16, Fm17, Fm18, Fm19. -/
import Derived.Test.YtkhbpebpljdifaaGreatDoorMFob
import Derived.Deep.RegionLaw
import Derived.Laws.EntriesVeiled
import Derived.RangeFuncNested
import Derived.RangeFuncBound
import Derived.RangeFuncCalls
import Derived.RangeFuncLeaves
import Derived.RangeFuncBox
import Derived.Shelf.Abstract
import Derived.OwnWalkIn
import Derived.TacticsInMore
import Derived.LoopNIn
import Derived.LoopIn
namespace Go.Proofs.YtkhbpebpljdifaaGreatDoor
open Go.RowKit Go.PL Go.Maps
set_option maxRecDepth 100000 in
set_option maxHeartbeats 6400000 in
theorem true_calls (w : World) (p : Nat) (l : List Tok) (s s' : PS) (n : Nd) (hx : Cx w p l) (h : RdAt w p l s) (_hd : s.dp ≤ 256) (hk0 : (tkAt l s).kind ≠ 0) (he : some (Nd.mk 0 [] 0 0 0 [], stepF s) = some (n, s')) :
    Calls Tryz.prog 170 #[.pointer (some ⟨p, 0, none⟩)] w (RdPost w p l s n s') := by
  have HpB : Hid (p < w.heap.size) := Lib.hid h.lt
  have hu0 : Upto [] w (w.alloc (.cells #[.int .i64 0, .slice none 0 0, .int .i64 0, .int .i64 0, .int .i64 0, .slice none 0 0] 34)) := (Upto.refl [] w).alloc _
  have HR0 := Lib.hid (h.ext hu0)
  have HX0 := Lib.hid (hx.ext hu0)
  have HU0 : Hid (Upto [p] w (w.alloc (.cells #[.int .i64 0, .slice none 0 0, .int .i64 0, .int .i64 0, .int .i64 0, .slice none 0 0] 34))) := Lib.hid (hu0.mono (by simp))
  have HNew : Hid ((w.alloc (.cells #[.int .i64 0, .slice none 0 0, .int .i64 0, .int .i64 0, .int .i64 0, .slice none 0 0] 34)).heap[w.heap.size]? = some (.cells #[.int .i64 0, .slice none 0 0, .int .i64 0, .int .i64 0, .int .i64 0, .slice none 0 0] 34 (0, 0))) := Lib.hid (new_at _ _)
  have hin := h.inb
  have hlen := hx.len
  have hn0 : (0 : Int) ≤ s.nx := by omega
  have hn1 : (s.nx : Int) ≤ 1000000 := by omega
  have HF : Hid (Fin l) := Lib.hid h.fin
  obtain ⟨⟨v, hb, -, -⟩, -, -⟩ := id HR0.out
  have b1 := cell_of hb 1
  have f1 := free_of hb 1
  unfold rdC at b1
  simp only [List.getElem?_toArray, List.getElem?_cons_zero, List.getElem?_cons_succ] at b1
  have h1 := HR0.out.step hk0
  have hz := h1.2.at HNew.out (by have := HpB.out; simp; omega)
  have HR1 := Lib.hid h1.1
  have HU1 := Lib.hid h1.2
  have HZ1 := Lib.hid hz
  have HK0 := Lib.hid hk0
  obtain ⟨z0, z1, z2, z3, z4, z5⟩ := cells6 hz
  obtain ⟨y0, y1, y2, y3, y4, y5⟩ := frees6 hz
  clear hx h hu0 hz h1 hk0 hb
  go_enter Tryz.func170, Tryz.ntmps170
  go_wp2_with fail
  cases he
  have hst := nd_store HZ1.out (.int .i64 0) (.slice none 0 0) (.int .i64 0) (.int .i64 0) (.int .i64 0) (.slice none 0 0)
  obtain ⟨q0, q1, q2, q3, q4, q5⟩ := cells6 hst
  exact bodyPost_ret (v := .agg #[.int .i64 0, .slice none 0 0, .int .i64 0, .int .i64 0, .int .i64 0, .slice none 0 0]) (by simp [results, Tryz.results170, go_sem, q0, q1, q2, q3, q4, q5]) rfl (rdpost_at (P := fun _ => False) (Nat.le_refl _) HpB.out (HU0.out.trans_same HU1.out) HR1.out HZ1.out (Adv.step HF.out hin HK0.out) (NdV.atom (names := []) SlP.nil) (fun b hb _ => hb.elim))
set_option maxRecDepth 100000 in
set_option maxHeartbeats 6400000 in
theorem false_calls (w : World) (p : Nat) (l : List Tok) (s s' : PS) (n : Nd) (hx : Cx w p l) (h : RdAt w p l s) (_hd : s.dp ≤ 256) (hk0 : (tkAt l s).kind ≠ 0) (he : some (Nd.mk 1 [] 0 0 0 [], stepF s) = some (n, s')) :
    Calls Tryz.prog 171 #[.pointer (some ⟨p, 0, none⟩)] w (RdPost w p l s n s') := by
  have HpB : Hid (p < w.heap.size) := Lib.hid h.lt
  have hu0 : Upto [] w (w.alloc (.cells #[.int .i64 0, .slice none 0 0, .int .i64 0, .int .i64 0, .int .i64 0, .slice none 0 0] 34)) := (Upto.refl [] w).alloc _
  have HR0 := Lib.hid (h.ext hu0)
  have HX0 := Lib.hid (hx.ext hu0)
  have HU0 : Hid (Upto [p] w (w.alloc (.cells #[.int .i64 0, .slice none 0 0, .int .i64 0, .int .i64 0, .int .i64 0, .slice none 0 0] 34))) := Lib.hid (hu0.mono (by simp))
  have HNew : Hid ((w.alloc (.cells #[.int .i64 0, .slice none 0 0, .int .i64 0, .int .i64 0, .int .i64 0, .slice none 0 0] 34)).heap[w.heap.size]? = some (.cells #[.int .i64 0, .slice none 0 0, .int .i64 0, .int .i64 0, .int .i64 0, .slice none 0 0] 34 (0, 0))) := Lib.hid (new_at _ _)
  have hin := h.inb
  have hlen := hx.len
  have hn0 : (0 : Int) ≤ s.nx := by omega
  have hn1 : (s.nx : Int) ≤ 1000000 := by omega
  have HF : Hid (Fin l) := Lib.hid h.fin
  obtain ⟨⟨v, hb, -, -⟩, -, -⟩ := id HR0.out
  have b1 := cell_of hb 1
  have f1 := free_of hb 1
  unfold rdC at b1
  simp only [List.getElem?_toArray, List.getElem?_cons_zero, List.getElem?_cons_succ] at b1
  have h1 := HR0.out.step hk0
  have hz := h1.2.at HNew.out (by have := HpB.out; simp; omega)
  have HR1 := Lib.hid h1.1
  have HU1 := Lib.hid h1.2
  have HZ1 := Lib.hid hz
  have HK0 := Lib.hid hk0
  obtain ⟨z0, z1, z2, z3, z4, z5⟩ := cells6 hz
  obtain ⟨y0, y1, y2, y3, y4, y5⟩ := frees6 hz
  clear hx h hu0 hz h1 hk0 hb
  go_enter Tryz.func171, Tryz.ntmps171
  go_wp2_with fail
  cases he
  have hst := nd_store HZ1.out (.int .i64 1) (.slice none 0 0) (.int .i64 0) (.int .i64 0) (.int .i64 0) (.slice none 0 0)
  obtain ⟨q0, q1, q2, q3, q4, q5⟩ := cells6 hst
  exact bodyPost_ret (v := .agg #[.int .i64 1, .slice none 0 0, .int .i64 0, .int .i64 0, .int .i64 0, .slice none 0 0]) (by simp [results, Tryz.results171, go_sem, q0, q1, q2, q3, q4, q5]) rfl (rdpost_at (P := fun _ => False) (Nat.le_refl _) HpB.out (HU0.out.trans_same HU1.out) HR1.out HZ1.out (Adv.step HF.out hin HK0.out) (NdV.atom (names := []) SlP.nil) (fun b hb _ => hb.elim))
set_option maxRecDepth 100000 in
set_option maxHeartbeats 6400000 in
theorem one_calls (w : World) (p : Nat) (l : List Tok) (s s' : PS) (n : Nd) (hx : Cx w p l) (h : RdAt w p l s) (_hd : s.dp ≤ 256) (hk0 : (tkAt l s).kind ≠ 0) (he : some (oneP l s) = some (n, s')) :
    Calls Tryz.prog 174 #[.pointer (some ⟨p, 0, none⟩)] w (RdPost w p l s n s') := by
  have HpB : Hid (p < w.heap.size) := Lib.hid h.lt
  have hu0 : Upto [] w (w.alloc (.cells #[.int .i64 0, .slice none 0 0, .int .i64 0, .int .i64 0, .int .i64 0, .slice none 0 0] 34)) := (Upto.refl [] w).alloc _
  have HR0 := Lib.hid (h.ext hu0)
  have HX0 := Lib.hid (hx.ext hu0)
  have HU0 : Hid (Upto [p] w (w.alloc (.cells #[.int .i64 0, .slice none 0 0, .int .i64 0, .int .i64 0, .int .i64 0, .slice none 0 0] 34))) := Lib.hid (hu0.mono (by simp))
  have HNew : Hid ((w.alloc (.cells #[.int .i64 0, .slice none 0 0, .int .i64 0, .int .i64 0, .int .i64 0, .slice none 0 0] 34)).heap[w.heap.size]? = some (.cells #[.int .i64 0, .slice none 0 0, .int .i64 0, .int .i64 0, .int .i64 0, .slice none 0 0] 34 (0, 0))) := Lib.hid (new_at _ _)
  have hin := h.inb
  have hlen := hx.len
  have hn0 : (0 : Int) ≤ s.nx := by omega
  have hn1 : (s.nx : Int) ≤ 1000000 := by omega
  have HF : Hid (Fin l) := Lib.hid h.fin
  obtain ⟨⟨v, hb, -, -⟩, -, -⟩ := id HR0.out
  have b1 := cell_of hb 1
  have f1 := free_of hb 1
  unfold rdC at b1
  simp only [List.getElem?_toArray, List.getElem?_cons_zero, List.getElem?_cons_succ] at b1
  have h1 := HR0.out.step hk0
  have hz := h1.2.at HNew.out (by have := HpB.out; simp; omega)
  have HR1 := Lib.hid h1.1
  have HU1 := Lib.hid h1.2
  have HZ1 := Lib.hid hz
  have HK0 := Lib.hid hk0
  clear h hu0 hz h1 hk0 hb
  go_enter Tryz.func174, Tryz.ntmps174
  go_wp2_with fail
  refine (name_calls _ p l (stepF s) HR1.out hx.len).mono ?_
  clear b1 f1
  rintro e w2 ⟨rfl, hR2, hu2⟩
  have hua := (Upto.refl [] w2).alloc (.cells #[.string ⟨(identR l (stepF s)).1.toArray⟩] 9)
  have hz := hua.at (hu2.at HZ1.out (by have := HpB.out; simp; omega)) (by simp)
  have hg : (w2.alloc (.cells #[.string ⟨(identR l (stepF s)).1.toArray⟩] 9)).heap[w2.heap.size]? = some (.cells #[.string ⟨(identR l (stepF s)).1.toArray⟩] 9 (0, 0)) := new_at _ _
  obtain ⟨z0, z1, z2, z3, z4, z5⟩ := cells6 hz
  obtain ⟨y0, y1, y2, y3, y4, y5⟩ := frees6 hz
  have HZ := Lib.hid hz
  have HR2 := Lib.hid (hR2.ext hua)
  have HU2 := Lib.hid (hu2.trans_ext hua)
  have HG := Lib.hid hg
  have HS2 := Lib.hid hu2.size
  clear hz hR2 hua hg hu2 hx
  go_wp2_with fail
  have h9 := lt_of_heap HZ1.out
  have h8 := HS2.out
  unfold oneP at he
  simp only [Option.some.injEq, Prod.mk.injEq] at he
  obtain ⟨rfl, rfl⟩ := he
  have hst := nd_store HZ.out (.int .i64 9) (.slice (some ⟨w2.heap.size, 0, none⟩) 1 1) (.int .i64 0) (.int .i64 0) (.int .i64 0) (.slice none 0 0)
  obtain ⟨q0, q1, q2, q3, q4, q5⟩ := cells6 hst
  exact bodyPost_ret (v := .agg #[.int .i64 9, .slice (some ⟨w2.heap.size, 0, none⟩) 1 1, .int .i64 0, .int .i64 0, .int .i64 0, .slice none 0 0]) (by simp [results, Tryz.results174, go_sem, q0, q1, q2, q3, q4, q5]) rfl (rdpost_at (P := fun b => New w b ∧ b ≠ w.heap.size) (Nat.le_refl _) HpB.out ((HU0.out.trans_same HU1.out).trans_same HU2.out) HR2.out HZ.out ((Adv.step HF.out hin HK0.out).trans (identR_adv HF.out (Adv.step HF.out hin HK0.out).lt).1)
    (NdV.atom (names := [(identR l (stepF s)).1]) (SlP.block (xs := [sV (identR l (stepF s)).1]) ⟨by unfold New; omega, by omega⟩ HG.out 1 1 (fun j u hj => by match j, hj with | 0, hj => simpa [sV] using hj))) (fun b hb _ => hb))
set_option maxRecDepth 100000 in
set_option maxHeartbeats 6400000 in
theorem not1_calls (w : World) (p : Nat) (l : List Tok) (s s' : PS) (n : Nd) (Br : Nat) (of : Rd) (hx : Cx w p l) (h : RdAt w p l s) (hd : s.dp ≤ 256) (hbr : w.heap[Br]? = some (.cells #[.pointer (some ⟨p, 0, none⟩)] 88 (0, 0))) (hbp : Br ≠ p) (hop : Rdr w p l 147 #[.pointer (some ⟨p, 0, none⟩)] of) (he : (fun t => (of t).map fun r => (Nd.mk 11 [] 0 0 0 [r.1], r.2)) s = some (n, s')) :
    Calls Tryz.prog 177 #[.pointer (some ⟨Br, 0, none⟩)] w (RdPost w p l s n s') := by
  have HpB : Hid (p < w.heap.size) := Lib.hid h.lt
  have hu0 : Upto [] w (w.alloc (.cells #[.int .i64 0, .slice none 0 0, .int .i64 0, .int .i64 0, .int .i64 0, .slice none 0 0] 34)) := (Upto.refl [] w).alloc _
  have HR0 := Lib.hid (h.ext hu0)
  have HX0 := Lib.hid (hx.ext hu0)
  have HU0 : Hid (Upto [p] w (w.alloc (.cells #[.int .i64 0, .slice none 0 0, .int .i64 0, .int .i64 0, .int .i64 0, .slice none 0 0] 34))) := Lib.hid (hu0.mono (by simp))
  have HNew : Hid ((w.alloc (.cells #[.int .i64 0, .slice none 0 0, .int .i64 0, .int .i64 0, .int .i64 0, .slice none 0 0] 34)).heap[w.heap.size]? = some (.cells #[.int .i64 0, .slice none 0 0, .int .i64 0, .int .i64 0, .int .i64 0, .slice none 0 0] 34 (0, 0))) := Lib.hid (new_at _ _)
  have HBR := Lib.hid (hu0.at hbr (by simp))
  have HLT := Lib.hid (lt_of_heap hbr)
  have HNE := Lib.hid hbp
  have c0 := cell_of HBR.out 0
  simp only [List.getElem?_toArray, List.getElem?_cons_zero] at c0
  have HF : Hid (Fin l) := Lib.hid h.fin
  have hin := h.inb
  have HOP := Lib.hid (hop.upto HU0.out)
  have HV : Hid (∃ m t, of s = some (m, t) ∧ n = Nd.mk 11 [] 0 0 0 [m] ∧ s' = t) := Lib.hid (by
    simp only at he
    cases hq : of s with
    | none => rw [hq] at he; cases he
    | some r => obtain ⟨m, t⟩ := r; rw [hq] at he; simp at he; exact ⟨m, t, rfl, he.1.symm, he.2.symm⟩)
  clear hx h he hu0 hbr hbp hop
  go_enter Tryz.func177, Tryz.ntmps177
  go_wp2_with fail
  obtain ⟨m, t, he1, hn1, hs1⟩ := HV.out
  refine (HOP.out _ s m t (Upto.refl _ _) HR0.out hd he1).mono ?_
  clear c0
  rintro e w2 ⟨vv, rfl, hn, hR2, hu2, ha⟩
  obtain ⟨oa, na1, na2, na3, sa, ma, qa, la1, la2, la3, rfl⟩ := hn.six
  have hua := (Upto.refl [] w2).alloc (.cells #[.int .i64 oa, .slice na1 na2 na3, .int .i64 sa, .int .i64 ma, .int .i64 qa, .slice la1 la2 la3] 34)
  have hz := hua.at (hu2.at HNew.out (by have := HpB.out; simp; omega)) (by simp)
  have hg : (w2.alloc (.cells #[.int .i64 oa, .slice na1 na2 na3, .int .i64 sa, .int .i64 ma, .int .i64 qa, .slice la1 la2 la3] 34)).heap[w2.heap.size]? = some (.cells #[.int .i64 oa, .slice na1 na2 na3, .int .i64 sa, .int .i64 ma, .int .i64 qa, .slice la1 la2 la3] 34 (0, 0)) := new_at _ _
  obtain ⟨z0, z1, z2, z3, z4, z5⟩ := cells6 hz
  obtain ⟨y0, y1, y2, y3, y4, y5⟩ := frees6 hz
  have HZ := Lib.hid hz
  have HR2 := Lib.hid (hR2.ext hua)
  have HU2 := Lib.hid (hu2.trans_ext hua)
  have HG := Lib.hid hg
  have HN := Lib.hid (hn.ext hua)
  have HA := Lib.hid ha
  have HS2 := Lib.hid hu2.size
  clear hz hR2 hua hg hu2 hn ha
  go_wp2_with fail
  have h9 := lt_of_heap HNew.out
  have h8 := HS2.out
  have h7 := HU0.out.size
  subst hn1 hs1
  have hst := nd_store HZ.out (.int .i64 11) (.slice none 0 0) (.int .i64 0) (.int .i64 0) (.int .i64 0) (.slice (some ⟨w2.heap.size, 0, none⟩) 1 1)
  obtain ⟨q0, q1, q2, q3, q4, q5⟩ := cells6 hst
  exact bodyPost_ret (v := .agg #[.int .i64 11, .slice none 0 0, .int .i64 0, .int .i64 0, .int .i64 0, .slice (some ⟨w2.heap.size, 0, none⟩) 1 1]) (by simp [results, Tryz.results177, go_sem, q0, q1, q2, q3, q4, q5]) rfl (rdpost_at (P := fun b => New w b ∧ b ≠ w.heap.size) (Nat.le_refl _) HpB.out (HU0.out.trans_same HU2.out) HR2.out HZ.out HA.out
    (NdV.one (names := []) SlP.nil (HN.out.mono (fun b hb _ => ⟨by unfold New at hb ⊢; omega, by unfold New at hb; omega⟩)) ⟨by unfold New; omega, by omega⟩ HG.out) (fun b hb _ => hb))
set_option maxRecDepth 100000 in
set_option maxHeartbeats 6400000 in
theorem paren1_calls (w : World) (p : Nat) (l : List Tok) (s s' : PS) (n : Nd) (Br : Nat) (fm : Rd) (hx : Cx w p l) (h : RdAt w p l s) (hd : s.dp ≤ 256) (hbr : w.heap[Br]? = some (.cells #[.pointer (some ⟨p, 0, none⟩)] 88 (0, 0))) (hbp : Br ≠ p) (hfm : Rdr w p l 58 #[.pointer (some ⟨p, 0, none⟩)] fm) (he : (fun t => (fm t).map fun r => (r.1, needF l [41] r.2)) s = some (n, s')) :
    Calls Tryz.prog 182 #[.pointer (some ⟨Br, 0, none⟩)] w (RdPost w p l s n s') := by
  have HpB : Hid (p < w.heap.size) := Lib.hid h.lt
  have hu0 : Upto [] w (w.alloc (.cells #[.int .i64 0, .slice none 0 0, .int .i64 0, .int .i64 0, .int .i64 0, .slice none 0 0] 34)) := (Upto.refl [] w).alloc _
  have HR0 := Lib.hid (h.ext hu0)
  have HX0 := Lib.hid (hx.ext hu0)
  have HU0 : Hid (Upto [p] w (w.alloc (.cells #[.int .i64 0, .slice none 0 0, .int .i64 0, .int .i64 0, .int .i64 0, .slice none 0 0] 34))) := Lib.hid (hu0.mono (by simp))
  have HNew : Hid ((w.alloc (.cells #[.int .i64 0, .slice none 0 0, .int .i64 0, .int .i64 0, .int .i64 0, .slice none 0 0] 34)).heap[w.heap.size]? = some (.cells #[.int .i64 0, .slice none 0 0, .int .i64 0, .int .i64 0, .int .i64 0, .slice none 0 0] 34 (0, 0))) := Lib.hid (new_at _ _)
  have HBR := Lib.hid (hu0.at hbr (by simp))
  have HLT := Lib.hid (lt_of_heap hbr)
  have HNE := Lib.hid hbp
  have c0 := cell_of HBR.out 0
  simp only [List.getElem?_toArray, List.getElem?_cons_zero] at c0
  have HF : Hid (Fin l) := Lib.hid h.fin
  have hin := h.inb
  have HFM := Lib.hid (hfm.upto HU0.out)
  have hlen := hx.len
  have HV : Hid (∃ m t, fm s = some (m, t) ∧ n = m ∧ s' = needF l [41] t) := Lib.hid (by
    simp only at he
    cases hq : fm s with
    | none => rw [hq] at he; cases he
    | some r => obtain ⟨m, t⟩ := r; rw [hq] at he; simp at he; exact ⟨m, t, rfl, he.1.symm, he.2.symm⟩)
  clear hx h he hu0 hbr hbp hfm
  go_enter Tryz.func182, Tryz.ntmps182
  go_wp2_with fail
  obtain ⟨m, t, he1, hn1, hs1⟩ := HV.out
  refine (HFM.out _ s m t (Upto.refl _ _) HR0.out hd he1).mono ?_
  clear c0
  rintro e w2 ⟨vv, rfl, hn, hR2, hu2, ha⟩
  obtain ⟨oa, na1, na2, na3, sa, ma, qa, la1, la2, la3, rfl⟩ := hn.six
  have hua := (Upto.refl [] w2).alloc (.cells #[.int .i64 oa, .slice na1 na2 na3, .int .i64 sa, .int .i64 ma, .int .i64 qa, .slice la1 la2 la3] 34)
  have c2 := cell_of (hua.at (hu2.at HBR.out (by simpa using HNE.out)) (by simp)) 0
  simp only [List.getElem?_toArray, List.getElem?_cons_zero] at c2
  have HZ2 := Lib.hid (hua.at (hu2.at HNew.out (by have := HpB.out; simp; omega)) (by simp))
  have HG : Hid ((w2.alloc (.cells #[.int .i64 oa, .slice na1 na2 na3, .int .i64 sa, .int .i64 ma, .int .i64 qa, .slice la1 la2 la3] 34)).heap[w2.heap.size]? = some (.cells #[.int .i64 oa, .slice na1 na2 na3, .int .i64 sa, .int .i64 ma, .int .i64 qa, .slice la1 la2 la3] 34 (0, 0))) := Lib.hid (new_at _ _)
  have HR2 := Lib.hid (hR2.ext hua)
  have HU2 := Lib.hid (hu2.trans_ext hua)
  have HN := Lib.hid (hn.ext hua)
  have HA := Lib.hid ha
  have HS2 := Lib.hid hu2.size
  clear hR2 hua hu2 hn ha
  go_wp2_with fail
  refine (need_calls _ p l t [41] HR2.out hlen).mono ?_
  clear c2
  rintro e w3 ⟨rfl, hR3, hu3⟩
  have hp3 : p ≠ w2.heap.size := by have h1 := HS2.out; have h2 := lt_of_heap HNew.out; have h3 := HpB.out; omega
  have hz := hu3.at HZ2.out (by have := HpB.out; simp; omega)
  have hg := hu3.at HG.out (by simp; omega)
  obtain ⟨z0, z1, z2, z3, z4, z5⟩ := cells6 hz
  obtain ⟨y0, y1, y2, y3, y4, y5⟩ := frees6 hz
  obtain ⟨x0, x1, x2, x3, x4, x5⟩ := cells6 hg
  obtain ⟨u0, u1, u2, u3, u4, u5⟩ := frees6 hg
  have HZ := Lib.hid hz
  have HR3 := Lib.hid hR3
  have HU3 := Lib.hid hu3
  clear hz hR3 hg hu3 hp3
  go_wp2_with fail
  have h9 := lt_of_heap HNew.out
  have h8 := HS2.out
  have h7 := HU0.out.size
  have h6 := HpB.out
  subst hn1 hs1
  have hst := nd_store HZ.out (.int .i64 oa) (.slice na1 na2 na3) (.int .i64 sa) (.int .i64 ma) (.int .i64 qa) (.slice la1 la2 la3)
  obtain ⟨q0, q1, q2, q3, q4, q5⟩ := cells6 hst
  exact bodyPost_ret (v := .agg #[.int .i64 oa, .slice na1 na2 na3, .int .i64 sa, .int .i64 ma, .int .i64 qa, .slice la1 la2 la3]) (by simp [results, Tryz.results182, go_sem, q0, q1, q2, q3, q4, q5]) rfl (rdpost_at (P := fun b => New w b ∧ b ≠ w.heap.size) (Nat.le_refl _) HpB.out ((HU0.out.trans_same HU2.out).trans_same HU3.out) HR3.out HZ.out (HA.out.trans (needF_adv HF.out HA.out.lt))
    ((HN.out.upto HU3.out (fun b hb _ => by unfold New at hb; simp; omega)).mono (fun b hb _ => ⟨by unfold New at hb ⊢; omega, by unfold New at hb; omega⟩)) (fun b hb _ => hb))
set_option maxRecDepth 100000 in
set_option maxHeartbeats 6400000 in
theorem not_calls (w : World) (p : Nat) (l : List Tok) (s s' : PS) (n : Nd) (of : Rd) (hx : Cx w p l) (h : RdAt w p l s) (hd : s.dp ≤ 256) (hk0 : (tkAt l s).kind ≠ 0) (hop : Rdr w p l 147 #[.pointer (some ⟨p, 0, none⟩)] of) (he : notP of s = some (n, s')) :
    Calls Tryz.prog 175 #[.pointer (some ⟨p, 0, none⟩)] w (RdPost w p l s n s') := by
  have HpB : Hid (p < w.heap.size) := Lib.hid h.lt
  have hu0 : Upto [] w ((w.alloc (.cells #[.pointer (some ⟨p, 0, none⟩)] 88)).alloc (.cells #[.int .i64 0, .slice none 0 0, .int .i64 0, .int .i64 0, .int .i64 0, .slice none 0 0] 34)) := ((Upto.refl [] w).alloc _).alloc _
  have HR0 := Lib.hid (h.ext hu0)
  have HX0 := Lib.hid (hx.ext hu0)
  have HU0 : Hid (Upto [p] w ((w.alloc (.cells #[.pointer (some ⟨p, 0, none⟩)] 88)).alloc (.cells #[.int .i64 0, .slice none 0 0, .int .i64 0, .int .i64 0, .int .i64 0, .slice none 0 0] 34))) := Lib.hid (hu0.mono (by simp))
  have HNew : Hid (((w.alloc (.cells #[.pointer (some ⟨p, 0, none⟩)] 88)).alloc (.cells #[.int .i64 0, .slice none 0 0, .int .i64 0, .int .i64 0, .int .i64 0, .slice none 0 0] 34)).heap[w.heap.size + 1]? = some (.cells #[.int .i64 0, .slice none 0 0, .int .i64 0, .int .i64 0, .int .i64 0, .slice none 0 0] 34 (0, 0))) := Lib.hid (new_at1 _ _ _)
  have hb0 : ((w.alloc (.cells #[.pointer (some ⟨p, 0, none⟩)] 88)).alloc (.cells #[.int .i64 0, .slice none 0 0, .int .i64 0, .int .i64 0, .int .i64 0, .slice none 0 0] 34)).heap[w.heap.size]? = some (.cells #[.pointer (some ⟨p, 0, none⟩)] 88 (0, 0)) := alloc_old (new_at _ _) _
  have c0 := cell_of hb0 0
  simp only [List.getElem?_toArray, List.getElem?_cons_zero] at c0
  have HB0 := Lib.hid hb0
  clear hb0
  have HOP := Lib.hid (hop.upto HU0.out)
  have HO1 : Hid (Rdr ((w.alloc (.cells #[.pointer (some ⟨p, 0, none⟩)] 88)).alloc (.cells #[.int .i64 0, .slice none 0 0, .int .i64 0, .int .i64 0, .int .i64 0, .slice none 0 0] 34)) p l 177 #[.pointer (some ⟨w.heap.size, 0, none⟩)] (fun t => (of t).map fun r => (Nd.mk 11 [] 0 0 0 [r.1], r.2))) := Lib.hid (fun w1 s1 n1 s2 h1 h2 h3 h4 => not1_calls w1 p l s1 s2 n1 w.heap.size of (HX0.out.upto h1) h2 h3 (h1.at HB0.out (by have := HpB.out; simp; omega)) (by have := HpB.out; omega) (HOP.out.upto h1) h4)
  clear hx h hu0
  go_enter Tryz.func175, Tryz.ntmps175
  go_wp2_with fail
  refine (level_calls _ p l s s' n 177 _ _ HX0.out HR0.out hd hk0 (run_enter Tryz.func177 (by kernel_rfl) rfl) HO1.out he).mono ?_
  clear c0
  rintro e w2 ⟨vv, rfl, hn, hR2, hu2, ha⟩
  obtain ⟨oa, na1, na2, na3, sa, ma, qa, la1, la2, la3, rfl⟩ := hn.six
  have hz := hu2.at HNew.out (by have := HpB.out; simp; omega)
  obtain ⟨z0, z1, z2, z3, z4, z5⟩ := cells6 hz
  obtain ⟨y0, y1, y2, y3, y4, y5⟩ := frees6 hz
  have HZ := Lib.hid hz
  have HN := Lib.hid hn
  have HR2 := Lib.hid hR2
  have HU2 := Lib.hid hu2
  have HA := Lib.hid ha
  clear hn hR2 hu2 ha hz
  go_wp2_with fail
  have hst := nd_store HZ.out (.int .i64 oa) (.slice na1 na2 na3) (.int .i64 sa) (.int .i64 ma) (.int .i64 qa) (.slice la1 la2 la3)
  obtain ⟨q0, q1, q2, q3, q4, q5⟩ := cells6 hst
  exact bodyPost_ret (v := .agg #[.int .i64 oa, .slice na1 na2 na3, .int .i64 sa, .int .i64 ma, .int .i64 qa, .slice la1 la2 la3]) (by simp [results, Tryz.results175, go_sem, q0, q1, q2, q3, q4, q5]) rfl (rdpost_at (by omega) (by have := HpB.out; omega) (HU0.out.trans_same HU2.out) HR2.out HZ.out HA.out HN.out (fun b hb _ => by have h1 := HU0.out.size; have h2 := lt_of_heap HNew.out; unfold New at hb ⊢; omega))
set_option maxRecDepth 100000 in
set_option maxHeartbeats 6400000 in
theorem paren_calls (w : World) (p : Nat) (l : List Tok) (s s' : PS) (n : Nd) (fm : Rd) (hx : Cx w p l) (h : RdAt w p l s) (hd : s.dp ≤ 256) (hk0 : (tkAt l s).kind ≠ 0) (hfm : Rdr w p l 58 #[.pointer (some ⟨p, 0, none⟩)] fm) (he : parenP l fm s = some (n, s')) :
    Calls Tryz.prog 181 #[.pointer (some ⟨p, 0, none⟩)] w (RdPost w p l s n s') := by
  have HpB : Hid (p < w.heap.size) := Lib.hid h.lt
  have hu0 : Upto [] w ((w.alloc (.cells #[.pointer (some ⟨p, 0, none⟩)] 88)).alloc (.cells #[.int .i64 0, .slice none 0 0, .int .i64 0, .int .i64 0, .int .i64 0, .slice none 0 0] 34)) := ((Upto.refl [] w).alloc _).alloc _
  have HR0 := Lib.hid (h.ext hu0)
  have HX0 := Lib.hid (hx.ext hu0)
  have HU0 : Hid (Upto [p] w ((w.alloc (.cells #[.pointer (some ⟨p, 0, none⟩)] 88)).alloc (.cells #[.int .i64 0, .slice none 0 0, .int .i64 0, .int .i64 0, .int .i64 0, .slice none 0 0] 34))) := Lib.hid (hu0.mono (by simp))
  have HNew : Hid (((w.alloc (.cells #[.pointer (some ⟨p, 0, none⟩)] 88)).alloc (.cells #[.int .i64 0, .slice none 0 0, .int .i64 0, .int .i64 0, .int .i64 0, .slice none 0 0] 34)).heap[w.heap.size + 1]? = some (.cells #[.int .i64 0, .slice none 0 0, .int .i64 0, .int .i64 0, .int .i64 0, .slice none 0 0] 34 (0, 0))) := Lib.hid (new_at1 _ _ _)
  have hb0 : ((w.alloc (.cells #[.pointer (some ⟨p, 0, none⟩)] 88)).alloc (.cells #[.int .i64 0, .slice none 0 0, .int .i64 0, .int .i64 0, .int .i64 0, .slice none 0 0] 34)).heap[w.heap.size]? = some (.cells #[.pointer (some ⟨p, 0, none⟩)] 88 (0, 0)) := alloc_old (new_at _ _) _
  have c0 := cell_of hb0 0
  simp only [List.getElem?_toArray, List.getElem?_cons_zero] at c0
  have HB0 := Lib.hid hb0
  clear hb0
  have HFM := Lib.hid (hfm.upto HU0.out)
  have HO1 : Hid (Rdr ((w.alloc (.cells #[.pointer (some ⟨p, 0, none⟩)] 88)).alloc (.cells #[.int .i64 0, .slice none 0 0, .int .i64 0, .int .i64 0, .int .i64 0, .slice none 0 0] 34)) p l 182 #[.pointer (some ⟨w.heap.size, 0, none⟩)] (fun t => (fm t).map fun r => (r.1, needF l [41] r.2))) := Lib.hid (fun w1 s1 n1 s2 h1 h2 h3 h4 => paren1_calls w1 p l s1 s2 n1 w.heap.size fm (HX0.out.upto h1) h2 h3 (h1.at HB0.out (by have := HpB.out; simp; omega)) (by have := HpB.out; omega) (HFM.out.upto h1) h4)
  clear hx h hu0
  go_enter Tryz.func181, Tryz.ntmps181
  go_wp2_with fail
  refine (level_calls _ p l s s' n 182 _ _ HX0.out HR0.out hd hk0 (run_enter Tryz.func182 (by kernel_rfl) rfl) HO1.out he).mono ?_
  clear c0
  rintro e w2 ⟨vv, rfl, hn, hR2, hu2, ha⟩
  obtain ⟨oa, na1, na2, na3, sa, ma, qa, la1, la2, la3, rfl⟩ := hn.six
  have hz := hu2.at HNew.out (by have := HpB.out; simp; omega)
  obtain ⟨z0, z1, z2, z3, z4, z5⟩ := cells6 hz
  obtain ⟨y0, y1, y2, y3, y4, y5⟩ := frees6 hz
  have HZ := Lib.hid hz
  have HN := Lib.hid hn
  have HR2 := Lib.hid hR2
  have HU2 := Lib.hid hu2
  have HA := Lib.hid ha
  clear hn hR2 hu2 ha hz
  go_wp2_with fail
  have hst := nd_store HZ.out (.int .i64 oa) (.slice na1 na2 na3) (.int .i64 sa) (.int .i64 ma) (.int .i64 qa) (.slice la1 la2 la3)
  obtain ⟨q0, q1, q2, q3, q4, q5⟩ := cells6 hst
  exact bodyPost_ret (v := .agg #[.int .i64 oa, .slice na1 na2 na3, .int .i64 sa, .int .i64 ma, .int .i64 qa, .slice la1 la2 la3]) (by simp [results, Tryz.results181, go_sem, q0, q1, q2, q3, q4, q5]) rfl (rdpost_at (by omega) (by have := HpB.out; omega) (HU0.out.trans_same HU2.out) HR2.out HZ.out HA.out HN.out (fun b hb _ => by have h1 := HU0.out.size; have h2 := lt_of_heap HNew.out; unfold New at hb ⊢; omega))
set_option maxRecDepth 100000 in
set_option maxHeartbeats 6400000 in
theorem bind_calls (w : World) (p : Nat) (l : List Tok) (s s' : PS) (n : Nd) (op : Int) (fm : Rd) (hx : Cx w p l) (h : RdAt w p l s) (hd : s.dp ≤ 256) (hk0 : (tkAt l s).kind ≠ 0) (hfm : Rdr w p l 58 #[.pointer (some ⟨p, 0, none⟩)] fm) (he : bindP l op fm s = some (n, s')) :
    Calls Tryz.prog 179 #[.pointer (some ⟨p, 0, none⟩), .int .i64 op] w (RdPost w p l s n s') := by
  have HpB : Hid (p < w.heap.size) := Lib.hid h.lt
  have hu0 : Upto [] w (((w.alloc (.cells #[.pointer (some ⟨p, 0, none⟩)] 88)).alloc (.cells #[.int .i64 op] 3)).alloc (.cells #[.int .i64 0, .slice none 0 0, .int .i64 0, .int .i64 0, .int .i64 0, .slice none 0 0] 34)) := (((Upto.refl [] w).alloc _).alloc _).alloc _
  have HR0 := Lib.hid (h.ext hu0)
  have HX0 := Lib.hid (hx.ext hu0)
  have HU0 : Hid (Upto [p] w (((w.alloc (.cells #[.pointer (some ⟨p, 0, none⟩)] 88)).alloc (.cells #[.int .i64 op] 3)).alloc (.cells #[.int .i64 0, .slice none 0 0, .int .i64 0, .int .i64 0, .int .i64 0, .slice none 0 0] 34))) := Lib.hid (hu0.mono (by simp))
  have HNew : Hid ((((w.alloc (.cells #[.pointer (some ⟨p, 0, none⟩)] 88)).alloc (.cells #[.int .i64 op] 3)).alloc (.cells #[.int .i64 0, .slice none 0 0, .int .i64 0, .int .i64 0, .int .i64 0, .slice none 0 0] 34)).heap[w.heap.size + 1 + 1]? = some (.cells #[.int .i64 0, .slice none 0 0, .int .i64 0, .int .i64 0, .int .i64 0, .slice none 0 0] 34 (0, 0))) := Lib.hid (new_at2 _ _ _ _)
  have hb0 : (((w.alloc (.cells #[.pointer (some ⟨p, 0, none⟩)] 88)).alloc (.cells #[.int .i64 op] 3)).alloc (.cells #[.int .i64 0, .slice none 0 0, .int .i64 0, .int .i64 0, .int .i64 0, .slice none 0 0] 34)).heap[w.heap.size]? = some (.cells #[.pointer (some ⟨p, 0, none⟩)] 88 (0, 0)) := alloc_old (alloc_old (new_at _ _) _) _
  have c0 := cell_of hb0 0
  simp only [List.getElem?_toArray, List.getElem?_cons_zero] at c0
  have HB0 := Lib.hid hb0
  clear hb0
  have hb1 : (((w.alloc (.cells #[.pointer (some ⟨p, 0, none⟩)] 88)).alloc (.cells #[.int .i64 op] 3)).alloc (.cells #[.int .i64 0, .slice none 0 0, .int .i64 0, .int .i64 0, .int .i64 0, .slice none 0 0] 34)).heap[w.heap.size + 1]? = some (.cells #[.int .i64 op] 3 (0, 0)) := alloc_old (new_at1 _ _ _) _
  have c1 := cell_of hb1 0
  simp only [List.getElem?_toArray, List.getElem?_cons_zero] at c1
  have HB1 := Lib.hid hb1
  clear hb1
  have HFM := Lib.hid (hfm.upto HU0.out)
  have HO1 : Hid (Rdr (((w.alloc (.cells #[.pointer (some ⟨p, 0, none⟩)] 88)).alloc (.cells #[.int .i64 op] 3)).alloc (.cells #[.int .i64 0, .slice none 0 0, .int .i64 0, .int .i64 0, .int .i64 0, .slice none 0 0] 34)) p l 192 #[.pointer (some ⟨w.heap.size + 1, 0, none⟩), .pointer (some ⟨w.heap.size, 0, none⟩)] (fun t => (fm (needF l [58] (identR l (sortP l t).2).2)).map fun r => (Nd.mk op [(identR l (sortP l t).2).1] (sortP l t).1 0 0 [r.1], r.2))) := Lib.hid (fun w1 s1 n1 s2 h1 h2 h3 h4 =>
    bind1_calls w1 p l s1 s2 n1 op (w.heap.size + 1) w.heap.size fm (HX0.out.upto h1) h2 h3 (h1.at HB1.out (by have := HpB.out; simp; omega)) (h1.at HB0.out (by have := HpB.out; simp; omega)) (by have := HpB.out; omega) (HFM.out.upto h1) h4)
  clear hx h hu0
  go_enter Tryz.func179, Tryz.ntmps179
  go_wp2_with fail
  refine (level_calls _ p l s s' n 192 _ _ HX0.out HR0.out hd hk0 (run_enter Tryz.func192 (by kernel_rfl) rfl) HO1.out he).mono ?_
  clear c0 c1
  rintro e w2 ⟨vv, rfl, hn, hR2, hu2, ha⟩
  obtain ⟨oa, na1, na2, na3, sa, ma, qa, la1, la2, la3, rfl⟩ := hn.six
  have hz := hu2.at HNew.out (by have := HpB.out; simp; omega)
  obtain ⟨z0, z1, z2, z3, z4, z5⟩ := cells6 hz
  obtain ⟨y0, y1, y2, y3, y4, y5⟩ := frees6 hz
  have HZ := Lib.hid hz
  have HN := Lib.hid hn
  have HR2 := Lib.hid hR2
  have HU2 := Lib.hid hu2
  have HA := Lib.hid ha
  clear hn hR2 hu2 ha hz
  go_wp2_with fail
  have hst := nd_store HZ.out (.int .i64 oa) (.slice na1 na2 na3) (.int .i64 sa) (.int .i64 ma) (.int .i64 qa) (.slice la1 la2 la3)
  obtain ⟨q0, q1, q2, q3, q4, q5⟩ := cells6 hst
  exact bodyPost_ret (v := .agg #[.int .i64 oa, .slice na1 na2 na3, .int .i64 sa, .int .i64 ma, .int .i64 qa, .slice la1 la2 la3]) (by simp [results, Tryz.results179, go_sem, q0, q1, q2, q3, q4, q5]) rfl (rdpost_at (by omega) (by have := HpB.out; omega) (HU0.out.trans_same HU2.out) HR2.out HZ.out HA.out HN.out (fun b hb _ => by have h1 := HU0.out.size; have h2 := lt_of_heap HNew.out; unfold New at hb ⊢; omega))
set_option maxRecDepth 100000 in
set_option maxHeartbeats 6400000 in
theorem some_calls (w : World) (p : Nat) (l : List Tok) (s s' : PS) (n : Nd) (fm : Rd) (hx : Cx w p l) (h : RdAt w p l s) (hd : s.dp ≤ 256) (hk0 : (tkAt l s).kind ≠ 0) (hfm : Rdr w p l 58 #[.pointer (some ⟨p, 0, none⟩)] fm) (he : bindP l 16 fm s = some (n, s')) :
    Calls Tryz.prog 178 #[.pointer (some ⟨p, 0, none⟩)] w (RdPost w p l s n s') := by
  have HpB : Hid (p < w.heap.size) := Lib.hid h.lt
  have hu0 : Upto [] w (w.alloc (.cells #[.int .i64 0, .slice none 0 0, .int .i64 0, .int .i64 0, .int .i64 0, .slice none 0 0] 34)) := (Upto.refl [] w).alloc _
  have HR0 := Lib.hid (h.ext hu0)
  have HX0 := Lib.hid (hx.ext hu0)
  have HU0 : Hid (Upto [p] w (w.alloc (.cells #[.int .i64 0, .slice none 0 0, .int .i64 0, .int .i64 0, .int .i64 0, .slice none 0 0] 34))) := Lib.hid (hu0.mono (by simp))
  have HNew : Hid ((w.alloc (.cells #[.int .i64 0, .slice none 0 0, .int .i64 0, .int .i64 0, .int .i64 0, .slice none 0 0] 34)).heap[w.heap.size]? = some (.cells #[.int .i64 0, .slice none 0 0, .int .i64 0, .int .i64 0, .int .i64 0, .slice none 0 0] 34 (0, 0))) := Lib.hid (new_at _ _)
  have HFM := Lib.hid (hfm.upto HU0.out)
  clear hx h hu0
  go_enter Tryz.func178, Tryz.ntmps178
  go_wp2_with fail
  refine (bind_calls _ p l s s' n 16 fm HX0.out HR0.out hd hk0 HFM.out he).mono ?_
  rintro e w2 ⟨vv, rfl, hn, hR2, hu2, ha⟩
  obtain ⟨oa, na1, na2, na3, sa, ma, qa, la1, la2, la3, rfl⟩ := hn.six
  have hz := hu2.at HNew.out (by have := HpB.out; simp; omega)
  obtain ⟨z0, z1, z2, z3, z4, z5⟩ := cells6 hz
  obtain ⟨y0, y1, y2, y3, y4, y5⟩ := frees6 hz
  have HZ := Lib.hid hz
  have HN := Lib.hid hn
  have HR2 := Lib.hid hR2
  have HU2 := Lib.hid hu2
  have HA := Lib.hid ha
  clear hn hR2 hu2 ha hz
  go_wp2_with fail
  have hst := nd_store HZ.out (.int .i64 oa) (.slice na1 na2 na3) (.int .i64 sa) (.int .i64 ma) (.int .i64 qa) (.slice la1 la2 la3)
  obtain ⟨q0, q1, q2, q3, q4, q5⟩ := cells6 hst
  exact bodyPost_ret (v := .agg #[.int .i64 oa, .slice na1 na2 na3, .int .i64 sa, .int .i64 ma, .int .i64 qa, .slice la1 la2 la3]) (by simp [results, Tryz.results178, go_sem, q0, q1, q2, q3, q4, q5]) rfl (rdpost_at (by omega) (by have := HpB.out; omega) (HU0.out.trans_same HU2.out) HR2.out HZ.out HA.out HN.out (fun b hb _ => by have h1 := HU0.out.size; have h2 := lt_of_heap HNew.out; unfold New at hb ⊢; omega))
set_option maxRecDepth 100000 in
set_option maxHeartbeats 6400000 in
theorem every_calls (w : World) (p : Nat) (l : List Tok) (s s' : PS) (n : Nd) (fm : Rd) (hx : Cx w p l) (h : RdAt w p l s) (hd : s.dp ≤ 256) (hk0 : (tkAt l s).kind ≠ 0) (hfm : Rdr w p l 58 #[.pointer (some ⟨p, 0, none⟩)] fm) (he : bindP l 17 fm s = some (n, s')) :
    Calls Tryz.prog 180 #[.pointer (some ⟨p, 0, none⟩)] w (RdPost w p l s n s') := by
  have HpB : Hid (p < w.heap.size) := Lib.hid h.lt
  have hu0 : Upto [] w (w.alloc (.cells #[.int .i64 0, .slice none 0 0, .int .i64 0, .int .i64 0, .int .i64 0, .slice none 0 0] 34)) := (Upto.refl [] w).alloc _
  have HR0 := Lib.hid (h.ext hu0)
  have HX0 := Lib.hid (hx.ext hu0)
  have HU0 : Hid (Upto [p] w (w.alloc (.cells #[.int .i64 0, .slice none 0 0, .int .i64 0, .int .i64 0, .int .i64 0, .slice none 0 0] 34))) := Lib.hid (hu0.mono (by simp))
  have HNew : Hid ((w.alloc (.cells #[.int .i64 0, .slice none 0 0, .int .i64 0, .int .i64 0, .int .i64 0, .slice none 0 0] 34)).heap[w.heap.size]? = some (.cells #[.int .i64 0, .slice none 0 0, .int .i64 0, .int .i64 0, .int .i64 0, .slice none 0 0] 34 (0, 0))) := Lib.hid (new_at _ _)
  have HFM := Lib.hid (hfm.upto HU0.out)
  clear hx h hu0
  go_enter Tryz.func180, Tryz.ntmps180
  go_wp2_with fail
  refine (bind_calls _ p l s s' n 17 fm HX0.out HR0.out hd hk0 HFM.out he).mono ?_
  rintro e w2 ⟨vv, rfl, hn, hR2, hu2, ha⟩
  obtain ⟨oa, na1, na2, na3, sa, ma, qa, la1, la2, la3, rfl⟩ := hn.six
  have hz := hu2.at HNew.out (by have := HpB.out; simp; omega)
  obtain ⟨z0, z1, z2, z3, z4, z5⟩ := cells6 hz
  obtain ⟨y0, y1, y2, y3, y4, y5⟩ := frees6 hz
  have HZ := Lib.hid hz
  have HN := Lib.hid hn
  have HR2 := Lib.hid hR2
  have HU2 := Lib.hid hu2
  have HA := Lib.hid ha
  clear hn hR2 hu2 ha hz
  go_wp2_with fail
  have hst := nd_store HZ.out (.int .i64 oa) (.slice na1 na2 na3) (.int .i64 sa) (.int .i64 ma) (.int .i64 qa) (.slice la1 la2 la3)
  obtain ⟨q0, q1, q2, q3, q4, q5⟩ := cells6 hst
  exact bodyPost_ret (v := .agg #[.int .i64 oa, .slice na1 na2 na3, .int .i64 sa, .int .i64 ma, .int .i64 qa, .slice la1 la2 la3]) (by simp [results, Tryz.results180, go_sem, q0, q1, q2, q3, q4, q5]) rfl (rdpost_at (by omega) (by have := HpB.out; omega) (HU0.out.trans_same HU2.out) HR2.out HZ.out HA.out HN.out (fun b hb _ => by have h1 := HU0.out.size; have h2 := lt_of_heap HNew.out; unfold New at hb ⊢; omega))
section
variable {P : Program} (w : World) {ops : Array Oper} {rest : List Oper} {o : Oper} {a : Act} {Q : Exit → Act → World → Prop}
theorem wpList_ins (hg : o.guard = none) (m x v : Operand) (t : TypeId) (hop : o.op = Op.insert t m x v)
    (k e : TypeId) (K : Keyed P k) (ht : P.underlying t = some (.map k e)) (b : Nat) (L : List (Value × Value))
    (hm : a.eval m = .map (some b)) (h : MapL P k w b L) (key val : Value) (l : Lit) (hx : a.eval x = key) (hv : a.eval v = val) (hkey : keyOf P k key = some l) (hnew : ∀ p ∈ L, p.1 ≠ key)
    (hK : ∀ w', MapL P k w' b (L ++ [(key, val)]) → w.grownBy w' (some b) → wpList P ops Q rest (a.put o.dst undef) w') :
    wpList P ops Q (o :: rest) a w := by
  refine wpList_plain hg fun K' hK' => ?_
  obtain ⟨w', hrun, r1, r2⟩ := h.insert K ht hkey (v := val) hnew
  unfold Oper.wp
  simp [execOp, hop, hm, hx, hv, hrun, Result.andThen]
  exact hK' _ _ (hK w' r1 r2)
end
def pieceL : List (Value × Value) := [(sb [116, 114, 117, 101], .agg #[.func (.func 170) #[] #[]]), (sb [102, 97, 108, 115, 101], .agg #[.func (.func 171) #[] #[]]), (sb [115, 105, 122, 101], .agg #[.func (.func 172) #[] #[]]), (sb [111, 110, 101], .agg #[.func (.func 174) #[] #[]]), (sb [110, 111, 116], .agg #[.func (.func 175) #[] #[]]), (sb [115, 111, 109, 101], .agg #[.func (.func 178) #[] #[]]), (sb [101, 118, 101, 114, 121], .agg #[.func (.func 180) #[] #[]]), (sb [40], .agg #[.func (.func 181) #[] #[]])]
set_option maxRecDepth 100000 in
set_option maxHeartbeats 1600000 in
theorem pieces_calls (w : World) : Calls Tryz.prog 160 #[] w fun e w' => ∃ b, e = .returned (.map (some b)) ∧ MapL Tryz.prog 9 w' b pieceL ∧ Upto [] w w' := by
  have hm0 := MapL.made Tryz.prog 9 w
  have hmm := @run_makeMap Tryz.prog
  have k0 : keyOf Tryz.prog 9 (.string ⟨#[116, 114, 117, 101]⟩) = some (.string [116, 114, 117, 101]) := by simpa [sb] using sb_key (x := [116, 114, 117, 101]) (by decide)
  have k1 : keyOf Tryz.prog 9 (.string ⟨#[102, 97, 108, 115, 101]⟩) = some (.string [102, 97, 108, 115, 101]) := by simpa [sb] using sb_key (x := [102, 97, 108, 115, 101]) (by decide)
  have k2 : keyOf Tryz.prog 9 (.string ⟨#[115, 105, 122, 101]⟩) = some (.string [115, 105, 122, 101]) := by simpa [sb] using sb_key (x := [115, 105, 122, 101]) (by decide)
  have k3 : keyOf Tryz.prog 9 (.string ⟨#[111, 110, 101]⟩) = some (.string [111, 110, 101]) := by simpa [sb] using sb_key (x := [111, 110, 101]) (by decide)
  have k4 : keyOf Tryz.prog 9 (.string ⟨#[110, 111, 116]⟩) = some (.string [110, 111, 116]) := by simpa [sb] using sb_key (x := [110, 111, 116]) (by decide)
  have k5 : keyOf Tryz.prog 9 (.string ⟨#[115, 111, 109, 101]⟩) = some (.string [115, 111, 109, 101]) := by simpa [sb] using sb_key (x := [115, 111, 109, 101]) (by decide)
  have k6 : keyOf Tryz.prog 9 (.string ⟨#[101, 118, 101, 114, 121]⟩) = some (.string [101, 118, 101, 114, 121]) := by simpa [sb] using sb_key (x := [101, 118, 101, 114, 121]) (by decide)
  have k7 : keyOf Tryz.prog 9 (.string ⟨#[40]⟩) = some (.string [40]) := by simpa [sb] using sb_key (x := [40]) (by decide)
  go_enter Tryz.func160, Tryz.ntmps160
  go_wp2_with (first
    | (refine wpList_ins _ rfl _ _ _ 193 rfl 9 191 lawS Tryz.underlying193 w.heap.size [] rfl hm0 (.string ⟨#[116, 114, 117, 101]⟩) (.agg #[.func (.func 170) #[] #[]]) _ rfl rfl k0 (by simp) ?_; intro w1 hm1 hg1)
    | (refine wpList_ins _ rfl _ _ _ 193 rfl 9 191 lawS Tryz.underlying193 w.heap.size [(.string ⟨#[116, 114, 117, 101]⟩, .agg #[.func (.func 170) #[] #[]])] rfl hm1 (.string ⟨#[102, 97, 108, 115, 101]⟩) (.agg #[.func (.func 171) #[] #[]]) _ rfl rfl k1 (by simp) ?_; intro w2 hm2 hg2)
    | (refine wpList_ins _ rfl _ _ _ 193 rfl 9 191 lawS Tryz.underlying193 w.heap.size [(.string ⟨#[116, 114, 117, 101]⟩, .agg #[.func (.func 170) #[] #[]]), (.string ⟨#[102, 97, 108, 115, 101]⟩, .agg #[.func (.func 171) #[] #[]])] rfl hm2 (.string ⟨#[115, 105, 122, 101]⟩) (.agg #[.func (.func 172) #[] #[]]) _ rfl rfl k2 (by simp) ?_; intro w3 hm3 hg3)
    | (refine wpList_ins _ rfl _ _ _ 193 rfl 9 191 lawS Tryz.underlying193 w.heap.size [(.string ⟨#[116, 114, 117, 101]⟩, .agg #[.func (.func 170) #[] #[]]), (.string ⟨#[102, 97, 108, 115, 101]⟩, .agg #[.func (.func 171) #[] #[]]), (.string ⟨#[115, 105, 122, 101]⟩, .agg #[.func (.func 172) #[] #[]])] rfl hm3 (.string ⟨#[111, 110, 101]⟩) (.agg #[.func (.func 174) #[] #[]]) _ rfl rfl k3 (by simp) ?_; intro w4 hm4 hg4)
    | (refine wpList_ins _ rfl _ _ _ 193 rfl 9 191 lawS Tryz.underlying193 w.heap.size [(.string ⟨#[116, 114, 117, 101]⟩, .agg #[.func (.func 170) #[] #[]]), (.string ⟨#[102, 97, 108, 115, 101]⟩, .agg #[.func (.func 171) #[] #[]]), (.string ⟨#[115, 105, 122, 101]⟩, .agg #[.func (.func 172) #[] #[]]), (.string ⟨#[111, 110, 101]⟩, .agg #[.func (.func 174) #[] #[]])] rfl hm4 (.string ⟨#[110, 111, 116]⟩) (.agg #[.func (.func 175) #[] #[]]) _ rfl rfl k4 (by simp) ?_; intro w5 hm5 hg5)
    | (refine wpList_ins _ rfl _ _ _ 193 rfl 9 191 lawS Tryz.underlying193 w.heap.size [(.string ⟨#[116, 114, 117, 101]⟩, .agg #[.func (.func 170) #[] #[]]), (.string ⟨#[102, 97, 108, 115, 101]⟩, .agg #[.func (.func 171) #[] #[]]), (.string ⟨#[115, 105, 122, 101]⟩, .agg #[.func (.func 172) #[] #[]]), (.string ⟨#[111, 110, 101]⟩, .agg #[.func (.func 174) #[] #[]]), (.string ⟨#[110, 111, 116]⟩, .agg #[.func (.func 175) #[] #[]])] rfl hm5 (.string ⟨#[115, 111, 109, 101]⟩) (.agg #[.func (.func 178) #[] #[]]) _ rfl rfl k5 (by simp) ?_; intro w6 hm6 hg6)
    | (refine wpList_ins _ rfl _ _ _ 193 rfl 9 191 lawS Tryz.underlying193 w.heap.size [(.string ⟨#[116, 114, 117, 101]⟩, .agg #[.func (.func 170) #[] #[]]), (.string ⟨#[102, 97, 108, 115, 101]⟩, .agg #[.func (.func 171) #[] #[]]), (.string ⟨#[115, 105, 122, 101]⟩, .agg #[.func (.func 172) #[] #[]]), (.string ⟨#[111, 110, 101]⟩, .agg #[.func (.func 174) #[] #[]]), (.string ⟨#[110, 111, 116]⟩, .agg #[.func (.func 175) #[] #[]]), (.string ⟨#[115, 111, 109, 101]⟩, .agg #[.func (.func 178) #[] #[]])] rfl hm6 (.string ⟨#[101, 118, 101, 114, 121]⟩) (.agg #[.func (.func 180) #[] #[]]) _ rfl rfl k6 (by simp) ?_; intro w7 hm7 hg7)
    | (refine wpList_ins _ rfl _ _ _ 193 rfl 9 191 lawS Tryz.underlying193 w.heap.size [(.string ⟨#[116, 114, 117, 101]⟩, .agg #[.func (.func 170) #[] #[]]), (.string ⟨#[102, 97, 108, 115, 101]⟩, .agg #[.func (.func 171) #[] #[]]), (.string ⟨#[115, 105, 122, 101]⟩, .agg #[.func (.func 172) #[] #[]]), (.string ⟨#[111, 110, 101]⟩, .agg #[.func (.func 174) #[] #[]]), (.string ⟨#[110, 111, 116]⟩, .agg #[.func (.func 175) #[] #[]]), (.string ⟨#[115, 111, 109, 101]⟩, .agg #[.func (.func 178) #[] #[]]), (.string ⟨#[101, 118, 101, 114, 121]⟩, .agg #[.func (.func 180) #[] #[]])] rfl hm7 (.string ⟨#[40]⟩) (.agg #[.func (.func 181) #[] #[]]) _ rfl rfl k7 (by simp) ?_; intro w8 hm8 hg8))
  have hu : Upto [w.heap.size] (w.alloc (.map #[] 0)) w8 := (((((((((Upto.refl _ _).grown hg1 (fun k hk => by cases hk; simp)).grown hg2 (fun k hk => by cases hk; simp)).grown hg3 (fun k hk => by cases hk; simp)).grown hg4 (fun k hk => by cases hk; simp)).grown hg5 (fun k hk => by cases hk; simp)).grown hg6 (fun k hk => by cases hk; simp)).grown hg7 (fun k hk => by cases hk; simp)).grown hg8 (fun k hk => by cases hk; simp))
  have hu2 : Upto [] w w8 := ((Upto.refl [] w).alloc _).trans hu (fun k hk => by simp at hk; subst hk; right; exact Nat.le_refl _)
  go_ret
  exact ⟨_, rfl, hm8, hu2⟩
theorem zeroP (w : World) : (zeroValue 191).run Tryz.prog w = .ok (.agg #[.nilFunc]) w := by kernel_rfl
theorem piece_no {w : World} {b : Nat} (h : MapL Tryz.prog 9 w b pieceL) (x : List UInt8) (hl : x.length ≤ 9223372036854775807) (hn : ∀ p ∈ pieceL, p.1 ≠ sb x) : (Instr.lookup 193 (.map (some b)) (.string ⟨x.toArray⟩) true).run Tryz.prog w = .ok (.tuple #[.agg #[.nilFunc], .bool false]) w := by
  rcases h.look lawS Tryz.underlying193 (zeroP w) (sb_key hl) true with ⟨h1, h2⟩ | ⟨v, h1, h2⟩
  · simpa [sb] using h1
  · exact absurd rfl (hn _ h1)
theorem piece_116 {w : World} {b : Nat} (h : MapL Tryz.prog 9 w b pieceL) : (Instr.lookup 193 (.map (some b)) (.string ⟨[116, 114, 117, 101].toArray⟩) true).run Tryz.prog w = .ok (.tuple #[.agg #[.func (.func 170) #[] #[]], .bool true]) w := by
  rcases h.look lawS Tryz.underlying193 (zeroP w) (sb_key (x := [116, 114, 117, 101]) (by decide)) true with ⟨h1, h2⟩ | ⟨v, h1, h2⟩
  · exact absurd rfl (h2 (sb [116, 114, 117, 101], .agg #[.func (.func 170) #[] #[]]) (by simp [pieceL]))
  · have : v = .agg #[.func (.func 170) #[] #[]] := by simpa [pieceL, sb] using h1
    subst this
    simpa [sb] using h2
theorem piece_117 {w : World} {b : Nat} (h : MapL Tryz.prog 9 w b pieceL) : (Instr.lookup 193 (.map (some b)) (.string ⟨[102, 97, 108, 115, 101].toArray⟩) true).run Tryz.prog w = .ok (.tuple #[.agg #[.func (.func 171) #[] #[]], .bool true]) w := by
  rcases h.look lawS Tryz.underlying193 (zeroP w) (sb_key (x := [102, 97, 108, 115, 101]) (by decide)) true with ⟨h1, h2⟩ | ⟨v, h1, h2⟩
  · exact absurd rfl (h2 (sb [102, 97, 108, 115, 101], .agg #[.func (.func 171) #[] #[]]) (by simp [pieceL]))
  · have : v = .agg #[.func (.func 171) #[] #[]] := by simpa [pieceL, sb] using h1
    subst this
    simpa [sb] using h2
theorem piece_118 {w : World} {b : Nat} (h : MapL Tryz.prog 9 w b pieceL) : (Instr.lookup 193 (.map (some b)) (.string ⟨[115, 105, 122, 101].toArray⟩) true).run Tryz.prog w = .ok (.tuple #[.agg #[.func (.func 172) #[] #[]], .bool true]) w := by
  rcases h.look lawS Tryz.underlying193 (zeroP w) (sb_key (x := [115, 105, 122, 101]) (by decide)) true with ⟨h1, h2⟩ | ⟨v, h1, h2⟩
  · exact absurd rfl (h2 (sb [115, 105, 122, 101], .agg #[.func (.func 172) #[] #[]]) (by simp [pieceL]))
  · have : v = .agg #[.func (.func 172) #[] #[]] := by simpa [pieceL, sb] using h1
    subst this
    simpa [sb] using h2
theorem piece_120 {w : World} {b : Nat} (h : MapL Tryz.prog 9 w b pieceL) : (Instr.lookup 193 (.map (some b)) (.string ⟨[111, 110, 101].toArray⟩) true).run Tryz.prog w = .ok (.tuple #[.agg #[.func (.func 174) #[] #[]], .bool true]) w := by
  rcases h.look lawS Tryz.underlying193 (zeroP w) (sb_key (x := [111, 110, 101]) (by decide)) true with ⟨h1, h2⟩ | ⟨v, h1, h2⟩
  · exact absurd rfl (h2 (sb [111, 110, 101], .agg #[.func (.func 174) #[] #[]]) (by simp [pieceL]))
  · have : v = .agg #[.func (.func 174) #[] #[]] := by simpa [pieceL, sb] using h1
    subst this
    simpa [sb] using h2
theorem piece_121 {w : World} {b : Nat} (h : MapL Tryz.prog 9 w b pieceL) : (Instr.lookup 193 (.map (some b)) (.string ⟨[110, 111, 116].toArray⟩) true).run Tryz.prog w = .ok (.tuple #[.agg #[.func (.func 175) #[] #[]], .bool true]) w := by
  rcases h.look lawS Tryz.underlying193 (zeroP w) (sb_key (x := [110, 111, 116]) (by decide)) true with ⟨h1, h2⟩ | ⟨v, h1, h2⟩
  · exact absurd rfl (h2 (sb [110, 111, 116], .agg #[.func (.func 175) #[] #[]]) (by simp [pieceL]))
  · have : v = .agg #[.func (.func 175) #[] #[]] := by simpa [pieceL, sb] using h1
    subst this
    simpa [sb] using h2
theorem piece_124 {w : World} {b : Nat} (h : MapL Tryz.prog 9 w b pieceL) : (Instr.lookup 193 (.map (some b)) (.string ⟨[115, 111, 109, 101].toArray⟩) true).run Tryz.prog w = .ok (.tuple #[.agg #[.func (.func 178) #[] #[]], .bool true]) w := by
  rcases h.look lawS Tryz.underlying193 (zeroP w) (sb_key (x := [115, 111, 109, 101]) (by decide)) true with ⟨h1, h2⟩ | ⟨v, h1, h2⟩
  · exact absurd rfl (h2 (sb [115, 111, 109, 101], .agg #[.func (.func 178) #[] #[]]) (by simp [pieceL]))
  · have : v = .agg #[.func (.func 178) #[] #[]] := by simpa [pieceL, sb] using h1
    subst this
    simpa [sb] using h2
theorem piece_126 {w : World} {b : Nat} (h : MapL Tryz.prog 9 w b pieceL) : (Instr.lookup 193 (.map (some b)) (.string ⟨[101, 118, 101, 114, 121].toArray⟩) true).run Tryz.prog w = .ok (.tuple #[.agg #[.func (.func 180) #[] #[]], .bool true]) w := by
  rcases h.look lawS Tryz.underlying193 (zeroP w) (sb_key (x := [101, 118, 101, 114, 121]) (by decide)) true with ⟨h1, h2⟩ | ⟨v, h1, h2⟩
  · exact absurd rfl (h2 (sb [101, 118, 101, 114, 121], .agg #[.func (.func 180) #[] #[]]) (by simp [pieceL]))
  · have : v = .agg #[.func (.func 180) #[] #[]] := by simpa [pieceL, sb] using h1
    subst this
    simpa [sb] using h2
theorem piece_127 {w : World} {b : Nat} (h : MapL Tryz.prog 9 w b pieceL) : (Instr.lookup 193 (.map (some b)) (.string ⟨[40].toArray⟩) true).run Tryz.prog w = .ok (.tuple #[.agg #[.func (.func 181) #[] #[]], .bool true]) w := by
  rcases h.look lawS Tryz.underlying193 (zeroP w) (sb_key (x := [40]) (by decide)) true with ⟨h1, h2⟩ | ⟨v, h1, h2⟩
  · exact absurd rfl (h2 (sb [40], .agg #[.func (.func 181) #[] #[]]) (by simp [pieceL]))
  · have : v = .agg #[.func (.func 181) #[] #[]] := by simpa [pieceL, sb] using h1
    subst this
    simpa [sb] using h2
end Go.Proofs.YtkhbpebpljdifaaGreatDoor
namespace Go.Proofs.YtkhbpebpljdifaaGreatDoor
open Go.RowKit Go.PL Go.Maps
theorem numberP_range (l : List Tok) (a z : Int) (s : PS) (_h0 : a ≤ 0 ∨ True) (hz : 0 ≤ z) : 0 ≤ (numberP l a z s).1 ∧ (numberP l a z s).1 ≤ max z 0 := by
  unfold numberP
  by_cases hk : (tkAt l s).kind = 2
  · simp only [if_pos hk]
    by_cases hr : ((tkAt l s).val : Int) < a ∨ z < (tkAt l s).val
    · simp only [if_pos hr, if_neg (wrongF_pos (by decide : (2 : Nat) ≠ 0) s)]
      omega
    · simp only [if_neg hr]
      by_cases he : s.er = 0
      · simp only [if_pos he]
        omega
      · simp only [if_neg he]
        omega
  · simp only [if_neg hk, if_neg (wrongF_pos (by decide : (3 : Nat) ≠ 0) s)]
    omega
set_option maxRecDepth 100000 in
set_option maxHeartbeats 6400000 in
theorem size_calls (w : World) (p : Nat) (l : List Tok) (s s' : PS) (n : Nd) (hx : Cx w p l) (h : RdAt w p l s) (_hd : s.dp ≤ 256) (hk0 : (tkAt l s).kind ≠ 0) (he : some (sizeP l s) = some (n, s')) :
    Calls Tryz.prog 172 #[.pointer (some ⟨p, 0, none⟩)] w (RdPost w p l s n s') := by
  have HpB : Hid (p < w.heap.size) := Lib.hid h.lt
  have hu0 : Upto [] w (w.alloc (.cells #[.int .i64 0, .slice none 0 0, .int .i64 0, .int .i64 0, .int .i64 0, .slice none 0 0] 34)) := (Upto.refl [] w).alloc _
  have HR0 := Lib.hid (h.ext hu0)
  have HX0 := Lib.hid (hx.ext hu0)
  have HU0 : Hid (Upto [p] w (w.alloc (.cells #[.int .i64 0, .slice none 0 0, .int .i64 0, .int .i64 0, .int .i64 0, .slice none 0 0] 34))) := Lib.hid (hu0.mono (by simp))
  have HNew : Hid ((w.alloc (.cells #[.int .i64 0, .slice none 0 0, .int .i64 0, .int .i64 0, .int .i64 0, .slice none 0 0] 34)).heap[w.heap.size]? = some (.cells #[.int .i64 0, .slice none 0 0, .int .i64 0, .int .i64 0, .int .i64 0, .slice none 0 0] 34 (0, 0))) := Lib.hid (new_at _ _)
  have hin := h.inb
  have hlen := hx.len
  have hn0 : (0 : Int) ≤ s.nx := by omega
  have hn1 : (s.nx : Int) ≤ 1000000 := by omega
  have HF : Hid (Fin l) := Lib.hid h.fin
  obtain ⟨⟨v, hb, -, -⟩, -, -⟩ := id HR0.out
  have b1 := cell_of hb 1
  have f1 := free_of hb 1
  unfold rdC at b1
  simp only [List.getElem?_toArray, List.getElem?_cons_zero, List.getElem?_cons_succ] at b1
  have h1 := HR0.out.step hk0
  have hz := h1.2.at HNew.out (by have := HpB.out; simp; omega)
  have HR1 := Lib.hid h1.1
  have HU1 := Lib.hid h1.2
  have HZ1 := Lib.hid hz
  have HK0 := Lib.hid hk0
  clear h hu0 hz h1 hk0 hb
  go_enter Tryz.func172, Tryz.ntmps172
  go_wp2_with fail
  refine (name_calls _ p l (stepF s) HR1.out hx.len).mono ?_
  clear b1 f1
  rintro e w2 ⟨rfl, hR2, hu2⟩
  have HU2 := Lib.hid ((HU0.out.trans_same HU1.out).trans_same hu2)
  have HZ2 := Lib.hid (hu2.at HZ1.out (by have := HpB.out; simp; omega))
  have HR2 := Lib.hid hR2
  clear hR2 hu2
  go_wp2_with fail
  obtain ⟨W3, g, Bn, hW3, hg, hBn, hnB, hgg, hzB, hu3, hR3, hord⟩ : ∃ W3 g Bn, W3 = (w2.alloc (.cells #[.string ⟨(identR l (stepF s)).1.toArray⟩] 9)).alloc (.cells #[.int .i64 8, .slice (some ⟨w2.heap.size, 0, none⟩) 1 1, .int .i64 0, .int .i64 0, .int .i64 0, .slice none 0 0] 34) ∧ g = w2.heap.size ∧ Bn = w2.heap.size + 1 ∧
      W3.heap[Bn]? = some (.cells #[.int .i64 8, .slice (some ⟨g, 0, none⟩) 1 1, .int .i64 0, .int .i64 0, .int .i64 0, .slice none 0 0] 34 (0, 0)) ∧ W3.heap[g]? = some (.cells #[.string ⟨(identR l (stepF s)).1.toArray⟩] 9 (0, 0)) ∧ W3.heap[w.heap.size]? = some (.cells #[.int .i64 0, .slice none 0 0, .int .i64 0, .int .i64 0, .int .i64 0, .slice none 0 0] 34 (0, 0)) ∧ Upto [p] w W3 ∧ RdAt W3 p l (identR l (stepF s)).2 ∧ (p < w.heap.size ∧ w.heap.size < g ∧ g < Bn) :=
    ⟨_, _, _, rfl, rfl, rfl, new_at1 _ _ _, alloc_old (new_at _ _) _, alloc_old (alloc_old HZ2.out _) _, (HU2.out.alloc _).alloc _, (HR2.out.ext ((Upto.refl [] w2).alloc _)).ext ((Upto.refl [] _).alloc _), HpB.out, lt_of_heap HZ2.out, Nat.lt_succ_self _⟩
  rw [← hW3, ← hBn]
  try rw [← hg]
  clear hW3 hg hBn HR2 HZ2 HU2 HR1 HZ1 HU1
  have HN := Lib.hid hnB
  have HG := Lib.hid hgg
  have HZ := Lib.hid hzB
  have HU := Lib.hid hu3
  have HR := Lib.hid hR3
  have HO := Lib.hid hord
  clear hnB hgg hzB hu3 hR3 hord
  refine (need_calls _ p l _ [109, 111, 100] HR.out hx.len).mono ?_
  rintro e w4 ⟨rfl, hR, hu⟩
  have HN := Lib.hid (hu.at HN.out (by have := HO.out; simp; omega))
  have HG := Lib.hid (hu.at HG.out (by have := HO.out; simp; omega))
  have HZ := Lib.hid (hu.at HZ.out (by have := HO.out; simp; omega))
  have HU := Lib.hid (HU.out.trans_same hu)
  have HR := Lib.hid hR
  clear hR hu
  go_wp2_with fail
  refine (number_callsP _ p 1 64 l _ HR.out hx.len).mono ?_
  rintro e w5 ⟨rfl, hR, hu⟩
  have HN := Lib.hid (hu.at HN.out (by have := HO.out; simp; omega))
  have HG := Lib.hid (hu.at HG.out (by have := HO.out; simp; omega))
  have HZ := Lib.hid (hu.at HZ.out (by have := HO.out; simp; omega))
  have HU := Lib.hid (HU.out.trans_same hu)
  have HR := Lib.hid hR
  clear hR hu
  obtain ⟨m, hm⟩ : ∃ m, m = (numberP l 1 64 (needF l [109, 111, 100] (identR l (stepF s)).2)).1 := ⟨_, rfl⟩
  have hm0 := numberP_range l 1 64 (needF l [109, 111, 100] (identR l (stepF s)).2) (Or.inr trivial) (by decide)
  rw [← hm] at hm0 ⊢
  have hn5 := HN.out
  obtain ⟨c0, c1, c2, c3, c4, c5⟩ := cells6 hn5
  obtain ⟨d0, d1, d2, d3, d4, d5⟩ := frees6 hn5
  have hs6 := (Upto.refl [Bn] w5).setCell (p := ⟨Bn, 4, none⟩) (Or.inl (by simp)) (.int .i64 m)
  have hn6 := set_same hn5 4 (.int .i64 m)
  simp only [List.setIfInBounds_toArray, List.set_cons_zero, List.set_cons_succ] at hn6
  have HR := Lib.hid (HR.out.other hn5 (nd_no_string (by simp) (by simp)) hs6 (by have := HO.out; omega))
  have HG := Lib.hid (hs6.at HG.out (by have := HO.out; simp; omega))
  have HZ := Lib.hid (hs6.at HZ.out (by have := HO.out; simp; omega))
  have HU := Lib.hid (HU.out.setCell (p := ⟨Bn, 4, none⟩) (Or.inr (by have := HO.out; simp; omega)) (.int .i64 m))
  have HN := Lib.hid hn6
  clear hn5 hn6 hs6
  have hm1 : (0 : Int) ≤ m := hm0.1
  have hm2 : m ≤ 64 := by have := hm0.2; omega
  have HM := Lib.hid hm
  clear hm0 hm
  go_wp2_with fail
  clear c0 c1 c2 c3 c4 c5 d0 d1 d2 d3 d4 d5
  refine (need_calls _ p l _ [105, 115] HR.out hx.len).mono ?_
  rintro e w6 ⟨rfl, hR, hu⟩
  have HN := Lib.hid (hu.at HN.out (by have := HO.out; simp; omega))
  have HG := Lib.hid (hu.at HG.out (by have := HO.out; simp; omega))
  have HZ := Lib.hid (hu.at HZ.out (by have := HO.out; simp; omega))
  have HU := Lib.hid (HU.out.trans_same hu)
  have HR := Lib.hid hR
  clear hR hu
  have hn6 := HN.out
  obtain ⟨c0, c1, c2, c3, c4, c5⟩ := cells6 hn6
  obtain ⟨d0, d1, d2, d3, d4, d5⟩ := frees6 hn6
  go_wp2_with fail
  clear c0 c1 c2 c3 c4 c5 d0 d1 d2 d3 d4 d5 hn6
  refine (number_callsP _ p 0 (m - 1) l _ HR.out hx.len).mono ?_
  rintro e w7 ⟨rfl, hR, hu⟩
  have HN := Lib.hid (hu.at HN.out (by have := HO.out; simp; omega))
  have HG := Lib.hid (hu.at HG.out (by have := HO.out; simp; omega))
  have HZ := Lib.hid (hu.at HZ.out (by have := HO.out; simp; omega))
  have HU := Lib.hid (HU.out.trans_same hu)
  have HR := Lib.hid hR
  clear hR hu
  obtain ⟨q, hq⟩ : ∃ q, q = (numberP l 0 (m - 1) (needF l [105, 115] (numberP l 1 64 (needF l [109, 111, 100] (identR l (stepF s)).2)).2)).1 := ⟨_, rfl⟩
  rw [← hq]
  have HQ := Lib.hid hq
  clear hq
  have hn7 := HN.out
  obtain ⟨c0, c1, c2, c3, c4, c5⟩ := cells6 hn7
  obtain ⟨d0, d1, d2, d3, d4, d5⟩ := frees6 hn7
  have hs8 := (Upto.refl [Bn] w7).setCell (p := ⟨Bn, 3, none⟩) (Or.inl (by simp)) (.int .i64 q)
  have hn8 := set_same hn7 3 (.int .i64 q)
  simp only [List.setIfInBounds_toArray, List.set_cons_zero, List.set_cons_succ] at hn8
  have HR := Lib.hid (HR.out.other hn7 (nd_no_string (by simp) (by simp)) hs8 (by have := HO.out; omega))
  have hg8 := hs8.at HG.out (by have := HO.out; simp; omega)
  have hz8 := hs8.at HZ.out (by have := HO.out; simp; omega)
  have HU := Lib.hid (HU.out.setCell (p := ⟨Bn, 3, none⟩) (Or.inr (by have := HO.out; simp; omega)) (.int .i64 q))
  obtain ⟨x0, x1, x2, x3, x4, x5⟩ := cells6 hn8
  obtain ⟨u0, u1, u2, u3, u4, u5⟩ := frees6 hn8
  obtain ⟨z0, z1, z2, z3, z4, z5⟩ := cells6 hz8
  obtain ⟨y0, y1, y2, y3, y4, y5⟩ := frees6 hz8
  have HZ := Lib.hid hz8
  have HG := Lib.hid hg8
  have HA : Hid (Adv l s (sizeP l s).2) := Lib.hid (by
    have a0 := Adv.step HF.out hin HK0.out
    have a1 := (identR_adv HF.out a0.lt).1
    have a2 := needF_adv HF.out (x := [109, 111, 100]) a1.lt
    have a3 := numberP_adv HF.out (a := 1) (z := 64) a2.lt
    have a4 := needF_adv HF.out (x := [105, 115]) a3.lt
    have a5 := numberP_adv HF.out (a := 0) (z := (numberP l 1 64 (needF l [109, 111, 100] (identR l (stepF s)).2)).1 - 1) a4.lt
    exact a0.trans (a1.trans (a2.trans (a3.trans (a4.trans a5)))))
  clear hn7 hn8 hs8 hg8 hz8 hx
  go_wp2_with fail
  have ho := HO.out
  have hE : n = Nd.mk 8 [(identR l (stepF s)).1] 0 q m [] ∧ s' = (sizeP l s).2 := by
    cases he
    have hm := HM.out
    have hq := HQ.out
    subst hm hq
    exact ⟨rfl, rfl⟩
  obtain ⟨rfl, rfl⟩ := hE
  have HRF : Hid (RdAt (w7.setCell ⟨Bn, 3, none⟩ (.int .i64 q)) p l (sizeP l s).2) := Lib.hid (by
    have := HR.out
    have hm := HM.out
    subst hm
    exact this)
  have hst := nd_store HZ.out (.int .i64 8) (.slice (some ⟨g, 0, none⟩) 1 1) (.int .i64 0) (.int .i64 q) (.int .i64 m) (.slice none 0 0)
  obtain ⟨q0, q1, q2, q3, q4, q5⟩ := cells6 hst
  exact bodyPost_ret (v := .agg #[.int .i64 8, .slice (some ⟨g, 0, none⟩) 1 1, .int .i64 0, .int .i64 q, .int .i64 m, .slice none 0 0]) (by simp [results, Tryz.results172, go_sem, q0, q1, q2, q3, q4, q5]) rfl (rdpost_at (P := fun b => New w b ∧ b ≠ w.heap.size) (Nat.le_refl _) HpB.out HU.out HRF.out HZ.out HA.out
    (NdV.atom (names := [(identR l (stepF s)).1]) (SlP.block (xs := [sV (identR l (stepF s)).1]) ⟨by unfold New; omega, by omega⟩ HG.out 1 1 (fun j u hj => by match j, hj with | 0, hj => simpa [sV] using hj))) (fun b hb _ => hb))
theorem row_one {w : World} {g : Nat} {x : Value} {e : TypeId} (h : w.heap[g]? = some (.cells #[x] e (0, 0))) : w.ownsRow 0 e 1 (.slice (some ⟨g, 0, none⟩) 1 1) 1 [x] :=
  ⟨rfl, Or.inr ⟨g, 1, #[x], rfl, Nat.zero_le _, h, Nat.le_refl _, by unfold maxLen; omega, rfl, rfl⟩⟩
theorem SlP.of_row {w : World} {P : Nat → Prop} {e : TypeId} {v : Value} {n : Nat} {xs : List Value} (h : w.ownsRow 0 e 1 v n xs) (hP : ∀ g, v.ownBlock = some g → P g) : SlP w P v n xs := by
  rcases h.2 with ⟨rfl, rfl⟩ | ⟨g, cap, cur, rfl, _, hh, _, _, _, ht⟩
  · exact Or.inl ⟨rfl, List.eq_nil_of_length_eq_zero (by simpa using h.1), none, 0, rfl⟩
  · refine Or.inr ⟨g, 0, cap, rfl, ⟨hP g rfl, _, _, _, hh⟩, ?_⟩
    intro j u hj
    rw [cell_of hh, Nat.zero_add]
    rw [← ht, List.getElem?_take] at hj
    split at hj
    · simpa using hj
    · cases hj
structure CallI (w : World) (p Bn : Nat) (l : List Tok) (s t : PS) (xs : List (List UInt8)) (v : Value) (wr : World) : Prop where
  rd : RdAt wr p l t
  up : Upto [p] w wr
  adv : Adv l s t
  z : wr.heap[w.heap.size]? = some (.cells #[.int .i64 0, .slice none 0 0, .int .i64 0, .int .i64 0, .int .i64 0, .slice none 0 0] 34 (0, 0))
  nb : wr.heap[Bn]? = some (.cells #[.int .i64 10, v, .int .i64 0, .int .i64 0, .int .i64 0, .slice none 0 0] 34 (0, 0))
  row : wr.ownsRow 0 9 1 v xs.length (xs.map sV)
  own : ∀ g, v.ownBlock = some g → w.heap.size < g ∧ g ≠ Bn
  ne : p < w.heap.size ∧ w.heap.size < Bn
theorem CallI.go {w : World} {p Bn : Nat} {l : List Tok} {s t t' : PS} {xs : List (List UInt8)} {v : Value} {wr wr' : World} (h : CallI w p Bn l s t xs v wr) (hu : Upto [p] wr wr') (hR : RdAt wr' p l t') (ha : Adv l t t') : CallI w p Bn l s t' xs v wr' := by
  have h1 := h.ne
  refine ⟨hR, h.up.trans_same hu, h.adv.trans ha, hu.at h.z (by simp; omega), hu.at h.nb (by simp; omega), ownsRow_upto h.row hu (fun g hg => by have := h.own g hg; simp; omega), h.own, h.ne⟩
theorem CallI.app {w : World} {p Bn : Nat} {l : List Tok} {s t : PS} {xs : List (List UInt8)} {v : Value} {wr w5 : World} {x : List UInt8} {b' : Option Addr} {n' c' : Nat} {T : TypeId} (h : CallI w p Bn l s t xs v wr) (hn : n' = xs.length + 1)
    (hg : Grew (wr.alloc (.cells #[.string ⟨x.toArray⟩] T)) w5 9 1 v (.slice b' n' c') n' (xs.map sV ++ [.string ⟨x.toArray⟩])) : CallI w p Bn l s t (xs ++ [x]) (.slice b' n' c') (w5.setCell ⟨Bn, 1, none⟩ (.slice b' n' c')) ∧ w5.heap[Bn]? = some (.cells #[.int .i64 10, v, .int .i64 0, .int .i64 0, .int .i64 0, .slice none 0 0] 34 (0, 0)) := by
  subst hn
  have h1 := h.ne
  have hua : Upto [] wr (wr.alloc (.cells #[.string ⟨x.toArray⟩] T)) := (Upto.refl [] wr).alloc _
  have hvs : ∀ g ∈ v.ownBlock.toList, w.heap.size < g ∧ g ≠ Bn := fun g hm => h.own g (Option.mem_toList.1 hm)
  have hu := hg.up
  have hnb := hu.at (hua.at h.nb (by simp)) (fun hm => (hvs _ hm).2 rfl)
  have hz := hu.at (hua.at h.z (by simp)) (fun hm => by have := (hvs _ hm).1; omega)
  have hst : Upto [Bn] w5 (w5.setCell ⟨Bn, 1, none⟩ (.slice b' (xs.length + 1) c')) := (Upto.refl [Bn] w5).setCell (p := ⟨Bn, 1, none⟩) (Or.inl (by simp)) _
  have hR5 : RdAt w5 p l t := (h.rd.ext hua).above hu (fun k hk => by have := (hvs k hk).1; omega)
  have hn2 := hg.own
  have hsz : w.heap.size < (wr.alloc (.cells #[.string ⟨x.toArray⟩] T)).heap.size := lt_of_heap (hua.at h.z (by simp))
  refine ⟨⟨hR5.above hst (fun k hk => by simp at hk; omega), ?_, h.adv, hst.at hz (by simp; omega), ?_, ?_, ?_, h.ne⟩, hnb⟩
  · exact ((h.up.trans_ext hua).trans hu (fun k hk => Or.inr (by have := (hvs k hk).1; omega))).setCell (Or.inr (by simp; omega)) _
  · have := set_same hnb 1 (.slice b' (xs.length + 1) c')
    simpa using this
  · have hr := hg.row
    rw [List.map_append, List.length_append]
    refine ownsRow_upto hr hst (fun g hgo => ?_)
    rcases hn2 g hgo with h2 | h2
    · have := (h.own g h2).2; simpa using this
    · have h3 := lt_of_heap (hua.at h.nb (by simp)); simp; omega
  · intro g hgo
    rcases hn2 g hgo with h2 | h2
    · exact h.own g h2
    · have h3 := lt_of_heap (hua.at h.nb (by simp)); exact ⟨by omega, by omega⟩
theorem info9 : (Tryz.prog.info? 9).map (fun i => (i.zero, i.size, i.bytes)) = some (some (.string ⟨#[]⟩), 1, 16) := by kernel_rfl
theorem identR_kind {l : List Tok} {s : PS} (h : (identR l s).2.er = 0) : (tkAt l s).kind = 1 := by
  unfold identR at h
  by_cases hk : (tkAt l s).kind = 1
  · exact hk
  · simp only [if_neg hk, if_neg (wrongF_pos (by decide : (3 : Nat) ≠ 0) s)] at h
    exact absurd h (wrongF_pos (by decide) s)
theorem info9' : ∃ i, Tryz.prog.info? 9 = some i ∧ i.zero = some (.string ⟨#[]⟩) ∧ i.size = 1 ∧ i.bytes = 16 := by
  have h := info9
  cases hi : Tryz.prog.info? 9 with
  | none => rw [hi] at h; cases h
  | some i =>
    rw [hi] at h
    simp only [Option.map_some, Option.some.injEq, Prod.mk.injEq] at h
    exact ⟨i, rfl, h.1, h.2.1, h.2.2⟩
set_option maxRecDepth 100000 in
set_option maxHeartbeats 6400000 in
theorem call_calls (w : World) (p : Nat) (l : List Tok) (s s' : PS) (n : Nd) (f : List UInt8) (hx : Cx w p l) (h : RdAt w p l s) (_hd : s.dp ≤ 256) (hk0 : (tkAt l s).kind ≠ 0) (he : callP l f s = some (n, s')) :
    Calls Tryz.prog 183 #[.pointer (some ⟨p, 0, none⟩), .string ⟨f.toArray⟩] w (RdPost w p l s n s') := by
  have hlen := hx.len
  have hin := h.inb
  have HF : Hid (Fin l) := Lib.hid h.fin
  have HpB : Hid (p < w.heap.size) := Lib.hid h.lt
  have hu0 : Upto [] w (((w.alloc (.cells #[.int .i64 0, .slice none 0 0, .int .i64 0, .int .i64 0, .int .i64 0, .slice none 0 0] 34)).alloc (.cells #[.string ⟨f.toArray⟩] 9)).alloc (.cells #[.int .i64 10, .slice (some ⟨w.heap.size + 1, 0, none⟩) 1 1, .int .i64 0, .int .i64 0, .int .i64 0, .slice none 0 0] 34)) := (((Upto.refl [] w).alloc _).alloc _).alloc _
  have hR1 := h.ext hu0
  obtain ⟨⟨vr, hb, -, -⟩, -, -⟩ := id hR1
  have b1 := cell_of hb 1
  have f1 := free_of hb 1
  unfold rdC at b1
  simp only [List.getElem?_toArray, List.getElem?_cons_zero, List.getElem?_cons_succ] at b1
  have hn0 : (0 : Int) ≤ s.nx := by omega
  have hn1 : (s.nx : Int) ≤ 1000000 := by omega
  have h2 := hR1.step hk0
  have HI : Hid (CallI w p (w.heap.size + 1 + 1) l s (stepF s) [f] (.slice (some ⟨w.heap.size + 1, 0, none⟩) 1 1) ((((w.alloc (.cells #[.int .i64 0, .slice none 0 0, .int .i64 0, .int .i64 0, .int .i64 0, .slice none 0 0] 34)).alloc (.cells #[.string ⟨f.toArray⟩] 9)).alloc (.cells #[.int .i64 10, .slice (some ⟨w.heap.size + 1, 0, none⟩) 1 1, .int .i64 0, .int .i64 0, .int .i64 0, .slice none 0 0] 34)).setCell ⟨p, 1, none⟩ (.int .i64 ((s.nx : Int) + 1)))) := Lib.hid (by
    have hp := HpB.out
    refine ⟨h2.1, (hu0.mono (by simp)).trans_same h2.2, Adv.step HF.out hin hk0, h2.2.at (alloc_old (alloc_old (new_at _ _) _) _) (by simp; omega), h2.2.at (new_at2 _ _ _ _) (by simp; omega), row_one (h2.2.at (alloc_old (new_at1 _ _ _) _) (by simp; omega)), ?_, hp, by omega⟩
    intro g hg
    simp [Value.ownBlock] at hg
    omega)
  clear hx h hu0 hR1 hb h2
  cases hq : isF l [41] (stepF s) with
  | true =>
    have HC := Lib.hid (takes_calls _ p l (stepF s) [41] HI.out.rd hlen)
    rw [hq] at HC
    have HT : Hid ((takesF l [41] (stepF s)).2 = stepF (stepF s)) := Lib.hid (by unfold takesF; rw [if_pos hq])
    have HV : Hid (n = Nd.mk 10 [f] 0 0 0 [] ∧ s' = stepF (stepF s)) := Lib.hid (by
      unfold callP at he
      simp only [hq, if_true] at he
      cases he
      exact ⟨rfl, rfl⟩)
    have HA := Lib.hid (Adv.step HF.out HI.out.rd.inb (isF_ne hq))
    clear he hk0 hq
    go_enter Tryz.func183, Tryz.ntmps183
    go_wp2_with fail
    refine HC.out.mono ?_
    clear b1 f1
    rintro e w3 ⟨rfl, hR3, hu3⟩
    rw [HT.out] at hR3
    have HI3 := Lib.hid (HI.out.go hu3 hR3 HA.out)
    clear hR3 hu3 HC HI
    obtain ⟨rfl, rfl⟩ := HV.out
    have hnb := HI3.out.nb
    have hzz := HI3.out.z
    obtain ⟨x0, x1, x2, x3, x4, x5⟩ := cells6 hnb
    obtain ⟨u0, u1, u2, u3, u4, u5⟩ := frees6 hnb
    obtain ⟨z0, z1, z2, z3, z4, z5⟩ := cells6 hzz
    obtain ⟨y0, y1, y2, y3, y4, y5⟩ := frees6 hzz
    clear hnb hzz
    go_wp2_with fail
    have hst := nd_store HI3.out.z (.int .i64 10) (.slice (some ⟨w.heap.size + 1, 0, none⟩) 1 1) (.int .i64 0) (.int .i64 0) (.int .i64 0) (.slice none 0 0)
    obtain ⟨q0, q1, q2, q3, q4, q5⟩ := cells6 hst
    exact bodyPost_ret (v := .agg #[.int .i64 10, .slice (some ⟨w.heap.size + 1, 0, none⟩) 1 1, .int .i64 0, .int .i64 0, .int .i64 0, .slice none 0 0]) (by simp [results, Tryz.results183, go_sem, q0, q1, q2, q3, q4, q5]) rfl (rdpost_at (P := fun b => New w b ∧ b ≠ w.heap.size) (Nat.le_refl _) HI3.out.ne.1 HI3.out.up HI3.out.rd HI3.out.z HI3.out.adv
      (NdV.atom (names := [f]) (SlP.of_row HI3.out.row (fun g hg => ⟨by have := HI3.out.own g hg; unfold New; omega, by have := HI3.out.own g hg; omega⟩))) (fun b hb _ => hb))
  | false =>
    have HC := Lib.hid (takes_calls _ p l (stepF s) [41] HI.out.rd hlen)
    rw [hq] at HC
    have HT : Hid ((takesF l [41] (stepF s)).2 = stepF s) := Lib.hid (by unfold takesF; rw [hq]; rfl)
    have HV : Hid (∃ ys, callLoop l (l.length + 1) [f] (stepF s) = some (ys, s') ∧ n = Nd.mk 10 ys 0 0 0 []) := Lib.hid (by
      unfold callP at he
      simp only [hq, Bool.false_eq_true, if_false] at he
      cases hz : callLoop l (l.length + 1) [f] (stepF s) with
      | none => rw [hz] at he; cases he
      | some r => obtain ⟨ys, t⟩ := r; rw [hz] at he; simp at he; exact ⟨ys, by rw [he.2], he.1.symm⟩)
    clear he hk0 hq
    go_enter Tryz.func183, Tryz.ntmps183
    go_wp2_with fail
    refine HC.out.mono ?_
    clear b1 f1
    rintro e w3 ⟨rfl, hR3, hu3⟩
    rw [HT.out] at hR3
    have HI3 := Lib.hid (HI.out.go hu3 hR3 (Adv.refl HI.out.rd.inb))
    clear hR3 hu3 HC HI HT
    go_wp2_with fail
    generalize w.heap.size + 1 + 1 = Bn at *
    obtain ⟨ys, hv0, hn⟩ := HV.out
    subst hn
    have HL0 : Hid (∃ k xs t v, callLoop l k xs t = some (ys, s') ∧ CallI w p Bn l s t xs v w3 ∧ xs.length ≤ 17) := Lib.hid ⟨_, _, _, _, hv0, HI3.out, by simp⟩
    clear hv0 HV HI3
    go_loopw [] (fun wr => Hid (∃ k xs t v, callLoop l k xs t = some (ys, s') ∧ CallI w p Bn l s t xs v wr ∧ xs.length ≤ 17)) (fun wr => l.length - nxOf wr p)
    case atStart => exact HL0
    case round =>
      obtain ⟨k, xs, t, v, hl, hI, h17⟩ := hrel.out
      obtain ⟨va, vc, rfl, -⟩ := ownsRow_len hI.row
      clear hrel HL0
      cases k with
      | zero => unfold callLoop at hl; cases hl
      | succ k =>
      unfold callLoop at hl
      have HI := Lib.hid hI
      have HNX := Lib.hid hI.rd.nx
      obtain ⟨⟨vr, hb, -, -⟩, -, -⟩ := id hI.rd
      have b2 := cell_of hb 2
      unfold rdC at b2
      simp only [List.getElem?_toArray, List.getElem?_cons_zero, List.getElem?_cons_succ] at b2
      clear hb
      by_cases h0 : t.er = 0
      · have k0 : ((t.er : Int) == 0) = true := by simp [h0]
        rw [if_pos h0] at hl
        have HN := Lib.hid (next_calls wr p l t hI.rd)
        have hx17 : (0 : Int) ≤ xs.length := by omega
        have hnb := hI.nb
        generalize htk : tkAt l t = tt at HN hl
        obtain ⟨tk, tx, tv, tl, tc⟩ := tt
        simp only at hl
        have hfd : ∀ u, (Instr.field 83 (.agg #[.int .i64 tk, .string ⟨tx.toArray⟩, .int .i64 tv, .int .i64 tl, .int .i64 tc]) 0).run Tryz.prog u = .ok (.int .i64 tk) u := fun _ => by kernel_rfl
        clear hI
        by_cases h1 : tk = 1
        · have k1 : ((tk : Int) == 1) = true := by simp [h1]
          by_cases h2 : xs.length = 17
          · have k2 : ((xs.length : Int) == 17) = true := by simp [h2]
            rw [if_pos ⟨h1, h2⟩] at hl
            simp only [Option.some.injEq, Prod.mk.injEq] at hl
            obtain ⟨rfl, rfl⟩ := hl
            clear hnb h0 h1 h2 htk
            go_wp2_with fail
            refine HN.out.mono ?_
            rintro e w4 ⟨rfl, hu4⟩
            unfold tkA
            have hI4 := HI.out.go (hu4.mono (by simp)) (HI.out.rd.ext hu4) (Adv.refl HI.out.rd.inb)
            have hnb4 := hI4.nb
            have x1 := cell_of hnb4 1
            simp only [List.getElem?_toArray, List.getElem?_cons_zero, List.getElem?_cons_succ] at x1
            have HI4 := Lib.hid hI4
            clear hI4 hnb4 hu4 HI HN b2
            go_wp2_with fail
            refine (wrong_calls w4 p 8 l t HI4.out.rd).mono ?_
            clear x1
            rintro e w5 ⟨rfl, hR5, hu5⟩
            have HI5 := Lib.hid (HI4.out.go hu5 hR5 (Adv.wrong HI4.out.rd.inb 8))
            clear hR5 hu5 HI4
            have hnb := HI5.out.nb
            have hzz := HI5.out.z
            obtain ⟨x0, x1, x2, x3, x4, x5⟩ := cells6 hnb
            obtain ⟨u0, u1, u2, u3, u4, u5⟩ := frees6 hnb
            obtain ⟨z0, z1, z2, z3, z4, z5⟩ := cells6 hzz
            obtain ⟨y0, y1, y2, y3, y4, y5⟩ := frees6 hzz
            clear hnb hzz
            go_wp2_with fail
            have hst := nd_store HI5.out.z (.int .i64 10) (.slice va xs.length vc) (.int .i64 0) (.int .i64 0) (.int .i64 0) (.slice none 0 0)
            obtain ⟨q0, q1, q2, q3, q4, q5⟩ := cells6 hst
            exact bodyPost_ret (v := .agg #[.int .i64 10, .slice va xs.length vc, .int .i64 0, .int .i64 0, .int .i64 0, .slice none 0 0]) (by simp [results, Tryz.results183, go_sem, q0, q1, q2, q3, q4, q5]) rfl (rdpost_at (P := fun b => New w b ∧ b ≠ w.heap.size) (Nat.le_refl _) HI5.out.ne.1 HI5.out.up HI5.out.rd HI5.out.z HI5.out.adv
              (NdV.atom (names := xs) (SlP.of_row HI5.out.row (fun g hg => ⟨by have := HI5.out.own g hg; unfold New; omega, by have := HI5.out.own g hg; omega⟩))) (fun b hb _ => hb))
          · have k2 : ((xs.length : Int) == 17) = false := by rw [beq_eq_false_iff_ne]; omega
            rw [if_neg (by simp [h2])] at hl
            have hgo : xs.length ≤ 16 := by omega
            clear hnb h0 h1 h2
            go_wp2_with fail
            refine HN.out.mono ?_
            rintro e w4 ⟨rfl, hu4⟩
            unfold tkA
            have hI4 := HI.out.go (hu4.mono (by simp)) (HI.out.rd.ext hu4) (Adv.refl HI.out.rd.inb)
            have hnb4 := hI4.nb
            have x1 := cell_of hnb4 1
            simp only [List.getElem?_toArray, List.getElem?_cons_zero, List.getElem?_cons_succ] at x1
            have hd4 : Upto [] w4 w4.drew := (Upto.refl [] w4).drew
            have hI4d := hI4.go (hd4.mono (by simp)) (hI4.rd.ext hd4) (Adv.refl hI4.rd.inb)
            have hnb4d := hI4d.nb
            have v1 := cell_of hnb4d 1
            simp only [List.getElem?_toArray, List.getElem?_cons_zero, List.getElem?_cons_succ] at v1
            have HI4 := Lib.hid hI4d
            have HS4 : Hid (w4.heap.size = w4.drew.heap.size) := Lib.hid rfl
            clear hI4 hnb4 hnb4d hI4d hd4 hu4 HI HN b2
            obtain ⟨i0, hi0, hz0, hz1, hz2⟩ := info9'
            go_wp2_with fail
            go_region_law (first
              | (go_simp
                 refine (name_calls w4.drew p l t HI4.out.rd hlen).mono ?_
                 rintro e w5 ⟨rfl, hR5, hu5⟩
                 have hI5 := HI4.out.go hu5 hR5 (identR_adv HF.out HI4.out.rd.inb).1
                 have hnb5 := hI5.nb
                 have g1 := cell_of hnb5 1
                 have g2 := cell_of (((Upto.refl [] w5).alloc (.cells #[.string ⟨(identR l t).1.toArray⟩] 9)).at hnb5 (by simp)) 1
                 simp only [List.getElem?_toArray, List.getElem?_cons_zero, List.getElem?_cons_succ] at g1 g2
                 have HI5 := Lib.hid hI5
                 clear hI5 hnb5 hR5 hu5)
              | (refine step_app _ (by rfl) (.tmp 37) (.tmp 40) 22 (by rfl) 9 i0 (.string ⟨#[]⟩) 1 16 Tryz.underlying22 hi0 hz0 hz1 hz2 rfl (by decide) _ _ _ (by rfl) (HI5.out.row.alloc _) ⟨w5.heap.size, 0, none⟩ 1 1 [.string ⟨(identR l t).1.toArray⟩] (by rfl) (by rfl) (one_at (new_at _ _)) (by simp [Value.oneCell']) (by unfold maxLen; omega) (by omega) ?_
                 intro qa qc w6 hg6
                 have hap := HI5.out.app rfl hg6
                 have e1 := cell_of hap.2 1
                 have e2 := free_of hap.2 1
                 simp only [List.getElem?_toArray, List.getElem?_cons_zero, List.getElem?_cons_succ] at e1
                 have HAP := Lib.hid hap.1
                 clear hap hg6))
            all_goals (
              have HNF : Hid (tkAt l t = ⟨tk, tx, tv, tl, tc⟩) := Lib.hid htk
              cases hc : isF l [44] (identR l t).2 with
              | true =>
                have HC := Lib.hid (takes_calls _ p l (identR l t).2 [44] HAP.out.rd hlen)
                rw [hc] at HC hl
                simp only [if_true] at hl
                have HT : Hid ((takesF l [44] (identR l t).2).2 = stepF (identR l t).2) := Lib.hid (by unfold takesF; rw [if_pos hc])
                have HA := Lib.hid (Adv.step HF.out HAP.out.rd.inb (isF_ne hc))
                have HID := Lib.hid ((identR_adv HF.out HI4.out.rd.inb).2 (isF_er hc))
                have HLL := Lib.hid hl
                have H16 : Hid (xs.length ≤ 16) := Lib.hid (hgo)
                clear hl hc htk
                go_wp2_with fail
                refine HC.out.mono ?_
                rintro e w7 ⟨rfl, hR7, hu7⟩
                rw [HT.out] at hR7
                have HI7 := Lib.hid (HAP.out.go hu7 hR7 HA.out)
                clear hR7 hu7
                go_wp2_with fail
                refine ⟨Lib.hid ⟨k, xs ++ [(identR l t).1], stepF (identR l t).2, _, HLL.out, HI7.out, by have := H16.out; simp; omega⟩, ?_⟩
                have q1 := HI7.out.rd.nx
                have q2 := HNX.out
                have q3 := HID.out
                have q4 := HI7.out.rd.inb
                have q5 : (stepF (identR l t).2).nx = (identR l t).2.nx + 1 := rfl
                rw [q1, q2]
                omega
              | false =>
                have HC := Lib.hid (takes_calls _ p l (identR l t).2 [44] HAP.out.rd hlen)
                rw [hc] at HC hl
                simp only [Bool.false_eq_true, if_false, Option.some.injEq, Prod.mk.injEq] at hl
                have HT : Hid ((takesF l [44] (identR l t).2).2 = (identR l t).2) := Lib.hid (by unfold takesF; rw [hc]; rfl)
                obtain ⟨rfl, rfl⟩ := hl
                clear hc htk
                go_wp2_with fail
                refine HC.out.mono ?_
                rintro e w7 ⟨rfl, hR7, hu7⟩
                rw [HT.out] at hR7
                have HI7 := Lib.hid (HAP.out.go hu7 hR7 (Adv.refl HAP.out.rd.inb))
                clear hR7 hu7
                go_wp2_with fail
                refine (need_calls w7 p l _ [41] HI7.out.rd hlen).mono ?_
                rintro e w8 ⟨rfl, hR8, hu8⟩
                have HI8 := Lib.hid (HI7.out.go hu8 hR8 (needF_adv HF.out HI7.out.rd.inb))
                clear hR8 hu8
                have hnb := HI8.out.nb
                have hzz := HI8.out.z
                obtain ⟨x0, x1, x2, x3, x4, x5⟩ := cells6 hnb
                obtain ⟨u0, u1, u2, u3, u4, u5⟩ := frees6 hnb
                obtain ⟨z0, z1, z2, z3, z4, z5⟩ := cells6 hzz
                obtain ⟨y0, y1, y2, y3, y4, y5⟩ := frees6 hzz
                clear hnb hzz
                go_wp2_with fail
                have hst := nd_store HI8.out.z (.int .i64 10) (.slice qa (xs.length + 1) qc) (.int .i64 0) (.int .i64 0) (.int .i64 0) (.slice none 0 0)
                obtain ⟨q0, q1, q2, q3, q4, q5⟩ := cells6 hst
                exact bodyPost_ret (v := .agg #[.int .i64 10, .slice qa (xs.length + 1) qc, .int .i64 0, .int .i64 0, .int .i64 0, .slice none 0 0]) (by simp [results, Tryz.results183, go_sem, q0, q1, q2, q3, q4, q5]) rfl (rdpost_at (P := fun b => New w b ∧ b ≠ w.heap.size) (Nat.le_refl _) HI8.out.ne.1 HI8.out.up HI8.out.rd HI8.out.z HI8.out.adv
                  (NdV.atom (names := xs ++ [(identR l t).1]) (SlP.of_row HI8.out.row (fun g hg => ⟨by have := HI8.out.own g hg; unfold New; omega, by have := HI8.out.own g hg; omega⟩))) (fun b hb _ => hb)))
        · have k1 : ((tk : Int) == 1) = false := by rw [beq_eq_false_iff_ne]; omega
          rw [if_neg (by simp [h1])] at hl
          clear hnb h0
          go_wp2_with fail
          refine HN.out.mono ?_
          rintro e w4 ⟨rfl, hu4⟩
          unfold tkA
          have hI4 := HI.out.go (hu4.mono (by simp)) (HI.out.rd.ext hu4) (Adv.refl HI.out.rd.inb)
          have hnb4 := hI4.nb
          have x1 := cell_of hnb4 1
          simp only [List.getElem?_toArray, List.getElem?_cons_zero, List.getElem?_cons_succ] at x1
          have hd4 : Upto [] w4 w4.drew := (Upto.refl [] w4).drew
          have hI4d := hI4.go (hd4.mono (by simp)) (hI4.rd.ext hd4) (Adv.refl hI4.rd.inb)
          have hnb4d := hI4d.nb
          have v1 := cell_of hnb4d 1
          simp only [List.getElem?_toArray, List.getElem?_cons_zero, List.getElem?_cons_succ] at v1
          have HI4 := Lib.hid hI4d
          have HS4 : Hid (w4.heap.size = w4.drew.heap.size) := Lib.hid rfl
          clear hI4 hnb4 hnb4d hI4d hd4 hu4 HI HN b2
          obtain ⟨i0, hi0, hz0, hz1, hz2⟩ := info9'
          go_wp2_with fail
          go_region_law (first
            | (go_simp
               refine (name_calls w4.drew p l t HI4.out.rd hlen).mono ?_
               rintro e w5 ⟨rfl, hR5, hu5⟩
               have hI5 := HI4.out.go hu5 hR5 (identR_adv HF.out HI4.out.rd.inb).1
               have hnb5 := hI5.nb
               have g1 := cell_of hnb5 1
               have g2 := cell_of (((Upto.refl [] w5).alloc (.cells #[.string ⟨(identR l t).1.toArray⟩] 9)).at hnb5 (by simp)) 1
               simp only [List.getElem?_toArray, List.getElem?_cons_zero, List.getElem?_cons_succ] at g1 g2
               have HI5 := Lib.hid hI5
               clear hI5 hnb5 hR5 hu5)
            | (refine step_app _ (by rfl) (.tmp 37) (.tmp 40) 22 (by rfl) 9 i0 (.string ⟨#[]⟩) 1 16 Tryz.underlying22 hi0 hz0 hz1 hz2 rfl (by decide) _ _ _ (by rfl) (HI5.out.row.alloc _) ⟨w5.heap.size, 0, none⟩ 1 1 [.string ⟨(identR l t).1.toArray⟩] (by rfl) (by rfl) (one_at (new_at _ _)) (by simp [Value.oneCell']) (by unfold maxLen; omega) (by omega) ?_
               intro qa qc w6 hg6
               have hap := HI5.out.app rfl hg6
               have e1 := cell_of hap.2 1
               have e2 := free_of hap.2 1
               simp only [List.getElem?_toArray, List.getElem?_cons_zero, List.getElem?_cons_succ] at e1
               have HAP := Lib.hid hap.1
               clear hap hg6))
          all_goals (
            have HNF : Hid (tkAt l t = ⟨tk, tx, tv, tl, tc⟩) := Lib.hid htk
            cases hc : isF l [44] (identR l t).2 with
            | true =>
              have HC := Lib.hid (takes_calls _ p l (identR l t).2 [44] HAP.out.rd hlen)
              rw [hc] at HC hl
              simp only [if_true] at hl
              have HT : Hid ((takesF l [44] (identR l t).2).2 = stepF (identR l t).2) := Lib.hid (by unfold takesF; rw [if_pos hc])
              have HA := Lib.hid (Adv.step HF.out HAP.out.rd.inb (isF_ne hc))
              have HID := Lib.hid ((identR_adv HF.out HI4.out.rd.inb).2 (isF_er hc))
              have HLL := Lib.hid hl
              have H16 : Hid (xs.length ≤ 16) := Lib.hid (by
                exfalso
                have hh := identR_kind (l := l) (s := t) (isF_er hc)
                rw [htk] at hh
                exact h1 hh)
              clear hl hc htk
              go_wp2_with fail
              refine HC.out.mono ?_
              rintro e w7 ⟨rfl, hR7, hu7⟩
              rw [HT.out] at hR7
              have HI7 := Lib.hid (HAP.out.go hu7 hR7 HA.out)
              clear hR7 hu7
              go_wp2_with fail
              refine ⟨Lib.hid ⟨k, xs ++ [(identR l t).1], stepF (identR l t).2, _, HLL.out, HI7.out, by have := H16.out; simp; omega⟩, ?_⟩
              have q1 := HI7.out.rd.nx
              have q2 := HNX.out
              have q3 := HID.out
              have q4 := HI7.out.rd.inb
              have q5 : (stepF (identR l t).2).nx = (identR l t).2.nx + 1 := rfl
              rw [q1, q2]
              omega
            | false =>
              have HC := Lib.hid (takes_calls _ p l (identR l t).2 [44] HAP.out.rd hlen)
              rw [hc] at HC hl
              simp only [Bool.false_eq_true, if_false, Option.some.injEq, Prod.mk.injEq] at hl
              have HT : Hid ((takesF l [44] (identR l t).2).2 = (identR l t).2) := Lib.hid (by unfold takesF; rw [hc]; rfl)
              obtain ⟨rfl, rfl⟩ := hl
              clear hc htk
              go_wp2_with fail
              refine HC.out.mono ?_
              rintro e w7 ⟨rfl, hR7, hu7⟩
              rw [HT.out] at hR7
              have HI7 := Lib.hid (HAP.out.go hu7 hR7 (Adv.refl HAP.out.rd.inb))
              clear hR7 hu7
              go_wp2_with fail
              refine (need_calls w7 p l _ [41] HI7.out.rd hlen).mono ?_
              rintro e w8 ⟨rfl, hR8, hu8⟩
              have HI8 := Lib.hid (HI7.out.go hu8 hR8 (needF_adv HF.out HI7.out.rd.inb))
              clear hR8 hu8
              have hnb := HI8.out.nb
              have hzz := HI8.out.z
              obtain ⟨x0, x1, x2, x3, x4, x5⟩ := cells6 hnb
              obtain ⟨u0, u1, u2, u3, u4, u5⟩ := frees6 hnb
              obtain ⟨z0, z1, z2, z3, z4, z5⟩ := cells6 hzz
              obtain ⟨y0, y1, y2, y3, y4, y5⟩ := frees6 hzz
              clear hnb hzz
              go_wp2_with fail
              have hst := nd_store HI8.out.z (.int .i64 10) (.slice qa (xs.length + 1) qc) (.int .i64 0) (.int .i64 0) (.int .i64 0) (.slice none 0 0)
              obtain ⟨q0, q1, q2, q3, q4, q5⟩ := cells6 hst
              exact bodyPost_ret (v := .agg #[.int .i64 10, .slice qa (xs.length + 1) qc, .int .i64 0, .int .i64 0, .int .i64 0, .slice none 0 0]) (by simp [results, Tryz.results183, go_sem, q0, q1, q2, q3, q4, q5]) rfl (rdpost_at (P := fun b => New w b ∧ b ≠ w.heap.size) (Nat.le_refl _) HI8.out.ne.1 HI8.out.up HI8.out.rd HI8.out.z HI8.out.adv
                (NdV.atom (names := xs ++ [(identR l t).1]) (SlP.of_row HI8.out.row (fun g hg => ⟨by have := HI8.out.own g hg; unfold New; omega, by have := HI8.out.own g hg; omega⟩))) (fun b hb _ => hb)))
      · have k0 : ((t.er : Int) == 0) = false := by rw [beq_eq_false_iff_ne]; omega
        rw [if_neg h0] at hl
        simp only [Option.some.injEq, Prod.mk.injEq] at hl
        obtain ⟨rfl, rfl⟩ := hl
        clear hI h0
        have hnb := HI.out.nb
        have hzz := HI.out.z
        obtain ⟨x0, x1, x2, x3, x4, x5⟩ := cells6 hnb
        obtain ⟨u0, u1, u2, u3, u4, u5⟩ := frees6 hnb
        obtain ⟨z0, z1, z2, z3, z4, z5⟩ := cells6 hzz
        obtain ⟨y0, y1, y2, y3, y4, y5⟩ := frees6 hzz
        clear hnb hzz
        go_wp2_with fail
        have hst := nd_store HI.out.z (.int .i64 10) (.slice va xs.length vc) (.int .i64 0) (.int .i64 0) (.int .i64 0) (.slice none 0 0)
        obtain ⟨q0, q1, q2, q3, q4, q5⟩ := cells6 hst
        exact bodyPost_ret (v := .agg #[.int .i64 10, .slice va xs.length vc, .int .i64 0, .int .i64 0, .int .i64 0, .slice none 0 0]) (by simp [results, Tryz.results183, go_sem, q0, q1, q2, q3, q4, q5]) rfl (rdpost_at (P := fun b => New w b ∧ b ≠ w.heap.size) (Nat.le_refl _) HI.out.ne.1 HI.out.up HI.out.rd HI.out.z HI.out.adv
          (NdV.atom (names := xs) (SlP.of_row HI.out.row (fun g hg => ⟨by have := HI.out.own g hg; unfold New; omega, by have := HI.out.own g hg; omega⟩))) (fun b hb _ => hb))
set_option maxRecDepth 100000 in
set_option maxHeartbeats 6400000 in
theorem atom_calls (w : World) (p : Nat) (l : List Tok) (s s' : PS) (n : Nd) (hx : Cx w p l) (h : RdAt w p l s) (hd : s.dp ≤ 256) (he : atomP l s = some (n, s')) :
    Calls Tryz.prog 161 #[.pointer (some ⟨p, 0, none⟩)] w (RdPost w p l s n s') := by
  have HpB : Hid (p < w.heap.size) := Lib.hid h.lt
  have hu0 : Upto [] w (w.alloc (.cells #[.int .i64 0, .slice none 0 0, .int .i64 0, .int .i64 0, .int .i64 0, .slice none 0 0] 34)) := (Upto.refl [] w).alloc _
  have HR0 := Lib.hid (h.ext hu0)
  have HX0 := Lib.hid (hx.ext hu0)
  have HU0 : Hid (Upto [p] w (w.alloc (.cells #[.int .i64 0, .slice none 0 0, .int .i64 0, .int .i64 0, .int .i64 0, .slice none 0 0] 34))) := Lib.hid (hu0.mono (by simp))
  have HNew : Hid ((w.alloc (.cells #[.int .i64 0, .slice none 0 0, .int .i64 0, .int .i64 0, .int .i64 0, .slice none 0 0] 34)).heap[w.heap.size]? = some (.cells #[.int .i64 0, .slice none 0 0, .int .i64 0, .int .i64 0, .int .i64 0, .slice none 0 0] 34 (0, 0))) := Lib.hid (new_at _ _)
  have hlen := hx.len
  have hin := h.inb
  have HF : Hid (Fin l) := Lib.hid h.fin
  have HA1 := Lib.hid (identR_adv HF.out hin).1
  have HN := Lib.hid (name_calls _ p l s HR0.out hlen)
  have he0 := he
  unfold atomP at he
  simp only at he
  clear hx h hu0
  cases hp : isF l [40] (identR l s).2 with
  | true =>
    rw [hp] at he
    simp only [if_true] at he
    have HE := Lib.hid he
    have HK := Lib.hid (isF_kind hp)
    have HP := Lib.hid hp
    clear he he0 hp
    go_enter Tryz.func161, Tryz.ntmps161
    go_wp2_with fail
    refine HN.out.mono ?_
    rintro e w1 ⟨rfl, hR1, hu1⟩
    have HI := Lib.hid (is_calls w1 p l (identR l s).2 [40] hR1)
    rw [HP.out] at HI
    have HR1 := Lib.hid hR1
    have HU1 := Lib.hid hu1
    clear hR1 hu1
    go_wp2_with fail
    refine HI.out.mono ?_
    rintro e w2 ⟨rfl, hu2⟩
    have HU2 := Lib.hid (HU1.out.trans_ext hu2)
    have HR2 := Lib.hid (HR1.out.ext hu2)
    have HX2 := Lib.hid (HX0.out.upto HU2.out)
    clear hu2
    go_wp2_with fail
    refine (call_calls w2 p l (identR l s).2 s' n (identR l s).1 HX2.out HR2.out (by rw [HA1.out.dp]; exact hd) HK.out HE.out).mono ?_
    rintro e w3 ⟨vv, rfl, hn, hR3, hu3, ha⟩
    obtain ⟨oa, na1, na2, na3, sa, ma, qa, la1, la2, la3, rfl⟩ := hn.six
    have hz := hu3.at (HU2.out.at HNew.out (by have := HpB.out; simp; omega)) (by have := HpB.out; simp; omega)
    obtain ⟨z0, z1, z2, z3, z4, z5⟩ := cells6 hz
    obtain ⟨y0, y1, y2, y3, y4, y5⟩ := frees6 hz
    have HZ := Lib.hid hz
    have HN3 := Lib.hid hn
    have HR3 := Lib.hid hR3
    have HU3 := Lib.hid hu3
    have HA := Lib.hid ha
    clear hn hR3 hu3 ha hz
    go_wp2_with fail
    have hst := nd_store HZ.out (.int .i64 oa) (.slice na1 na2 na3) (.int .i64 sa) (.int .i64 ma) (.int .i64 qa) (.slice la1 la2 la3)
    obtain ⟨q0, q1, q2, q3, q4, q5⟩ := cells6 hst
    exact bodyPost_ret (v := .agg #[.int .i64 oa, .slice na1 na2 na3, .int .i64 sa, .int .i64 ma, .int .i64 qa, .slice la1 la2 la3]) (by simp [results, Tryz.results161, go_sem, q0, q1, q2, q3, q4, q5]) rfl (rdpost_at (Nat.le_refl _) HpB.out ((HU0.out.trans_same HU2.out).trans_same HU3.out) HR3.out HZ.out (HA1.out.trans HA.out) HN3.out (fun b hb _ => by have h1 := (HU0.out.trans_same HU2.out).size; have h2 := HU2.out.size; have h3 := lt_of_heap HNew.out; unfold New at hb ⊢; omega))
  | false =>
    rw [hp] at he
    simp only [Bool.false_eq_true, if_false] at he
    have HP := Lib.hid hp
    clear hp he0
    cases hi : isF l [105, 115] (identR l s).2 with
    | true =>
      rw [hi] at he
      simp only [if_true, Option.some.injEq, Prod.mk.injEq] at he
      obtain ⟨rfl, rfl⟩ := he
      have HII := Lib.hid hi
      clear hi
      go_enter Tryz.func161, Tryz.ntmps161
      go_wp2_with fail
      refine HN.out.mono ?_
      rintro e w1 ⟨rfl, hR1, hu1⟩
      have HI := Lib.hid (is_calls w1 p l (identR l s).2 [40] hR1)
      rw [HP.out] at HI
      have HR1 := Lib.hid hR1
      have HU1 := Lib.hid hu1
      clear hR1 hu1
      go_wp2_with fail
      refine HI.out.mono ?_
      rintro e w2 ⟨rfl, hu2⟩
      have HU2 := Lib.hid (HU1.out.trans_ext hu2)
      have HR2 := Lib.hid (HR1.out.ext hu2)
      have HT := Lib.hid (takes_calls w2 p l (identR l s).2 [105, 115] HR2.out hlen)
      rw [HII.out] at HT
      have HTS : Hid ((takesF l [105, 115] (identR l s).2).2 = stepF (identR l s).2) := Lib.hid (by unfold takesF; rw [if_pos HII.out])
      clear hu2
      go_wp2_with fail
      refine HT.out.mono ?_
      rintro e w3 ⟨rfl, hR3, hu3⟩
      rw [HTS.out] at hR3
      have hua := (Upto.refl [] w3).alloc (.cells #[.string ⟨(identR l s).1.toArray⟩] 9)
      have HR3 := Lib.hid (hR3.ext hua)
      have HU3 := Lib.hid ((HU2.out.trans_same hu3).trans_ext hua)
      have HG : Hid ((w3.alloc (.cells #[.string ⟨(identR l s).1.toArray⟩] 9)).heap[w3.heap.size]? = some (.cells #[.string ⟨(identR l s).1.toArray⟩] 9 (0, 0))) := Lib.hid (new_at _ _)
      have HS3 := Lib.hid (HU2.out.trans_same hu3).size
      clear hR3 hu3 hua
      go_wp2_with fail
      refine (number_callsP _ p 0 7 l (stepF (identR l s).2) HR3.out hlen).mono ?_
      rintro e w4 ⟨rfl, hR4, hu4⟩
      have hsz : w.heap.size < w3.heap.size := Nat.lt_of_lt_of_le (lt_of_heap HNew.out) HS3.out
      have HSZ := Lib.hid hsz
      have hz := hu4.at (HU3.out.at HNew.out (by have := HpB.out; simp; omega)) (by have := HpB.out; simp; omega)
      have HG4 := Lib.hid (hu4.at HG.out (by have := HpB.out; simp; omega))
      obtain ⟨z0, z1, z2, z3, z4, z5⟩ := cells6 hz
      obtain ⟨y0, y1, y2, y3, y4, y5⟩ := frees6 hz
      have HZ := Lib.hid hz
      have HR4 := Lib.hid hR4
      have HU4 := Lib.hid (HU3.out.trans_same hu4)
      clear hz hR4 hu4 hsz
      go_wp2_with fail
      have a2 := Adv.step HF.out HA1.out.lt (isF_ne HII.out)
      have hst := nd_store HZ.out (.int .i64 7) (.slice (some ⟨w3.heap.size, 0, none⟩) 1 1) (.int .i64 0) (.int .i64 (numberP l 0 7 (stepF (identR l s).2)).1) (.int .i64 0) (.slice none 0 0)
      obtain ⟨q0, q1, q2, q3, q4, q5⟩ := cells6 hst
      exact bodyPost_ret (v := .agg #[.int .i64 7, .slice (some ⟨w3.heap.size, 0, none⟩) 1 1, .int .i64 0, .int .i64 (numberP l 0 7 (stepF (identR l s).2)).1, .int .i64 0, .slice none 0 0]) (by simp [results, Tryz.results161, go_sem, q0, q1, q2, q3, q4, q5]) rfl (rdpost_at (P := fun b => New w b ∧ b ≠ w.heap.size) (Nat.le_refl _) HpB.out (HU0.out.trans_same HU4.out) HR4.out HZ.out (HA1.out.trans (a2.trans (numberP_adv HF.out a2.lt)))
        (NdV.atom (names := [(identR l s).1]) (SlP.block (xs := [sV (identR l s).1]) ⟨by have := HSZ.out; unfold New; omega, by have := HSZ.out; omega⟩ HG4.out 1 1 (fun j u hj => by match j, hj with | 0, hj => simpa [sV] using hj))) (fun b hb _ => hb))
    | false =>
      rw [hi] at he
      simp only [Bool.false_eq_true, if_false] at he
      have HII := Lib.hid hi
      have HE := Lib.hid he
      clear hi he
      go_enter Tryz.func161, Tryz.ntmps161
      go_wp2_with fail
      refine HN.out.mono ?_
      rintro e w1 ⟨rfl, hR1, hu1⟩
      have HI := Lib.hid (is_calls w1 p l (identR l s).2 [40] hR1)
      rw [HP.out] at HI
      have HR1 := Lib.hid hR1
      have HU1 := Lib.hid hu1
      clear hR1 hu1
      go_wp2_with fail
      refine HI.out.mono ?_
      rintro e w2 ⟨rfl, hu2⟩
      have HU2 := Lib.hid (HU1.out.trans_ext hu2)
      have HR2 := Lib.hid (HR1.out.ext hu2)
      have HT := Lib.hid (takes_calls w2 p l (identR l s).2 [105, 115] HR2.out hlen)
      rw [HII.out] at HT
      have HTS : Hid ((takesF l [105, 115] (identR l s).2).2 = (identR l s).2) := Lib.hid (by unfold takesF; rw [HII.out]; rfl)
      clear hu2
      go_wp2_with fail
      refine HT.out.mono ?_
      rintro e w3 ⟨rfl, hR3, hu3⟩
      rw [HTS.out] at hR3
      have HL0 : Hid (RdAt w3 p l (identR l s).2 ∧ Upto [p] (w.alloc (.cells #[.int .i64 0, .slice none 0 0, .int .i64 0, .int .i64 0, .int .i64 0, .slice none 0 0] 34)) w3 ∧ ∀ j, j < 0 → isF l (relWords.getD j []) (identR l s).2 = false) := Lib.hid ⟨hR3, HU2.out.trans_same hu3, fun j h => by omega⟩
      clear hR3 hu3 HT HTS HR2 HU2 HI HR1 HU1 HN HII HP
      go_wp2_with fail
      go_loopw [23] (fun i wr => ∃ k : Nat, k ≤ 5 ∧ i = .int .i64 k ∧ Hid (RdAt wr p l (identR l s).2 ∧ Upto [p] (w.alloc (.cells #[.int .i64 0, .slice none 0 0, .int .i64 0, .int .i64 0, .int .i64 0, .slice none 0 0] 34)) wr ∧ ∀ j, j < k → isF l (relWords.getD j []) (identR l s).2 = false)) (fun i _ => 5 - (intOf i).toNat)
      case atStart => exact ⟨0, by omega, rfl, HL0⟩
      case round =>
        obtain ⟨k, hk, rfl, HI⟩ := hrel
        have hc : k = 0 ∨ k = 1 ∨ k = 2 ∨ k = 3 ∨ k = 4 ∨ k = 5 := by omega
        clear HL0
        rcases hc with rfl | rfl | rfl | rfl | rfl | rfl
        · have ix : ∀ w, (Instr.index 210 (.agg #[.string ⟨#[61]⟩, .string ⟨#[105, 110]⟩, .string ⟨#[115, 117, 98]⟩, .string ⟨#[97, 100, 106]⟩, .string ⟨#[111, 110]⟩]) (.int .i64 0)).run Tryz.prog w = .ok (.string ⟨#[61]⟩) w := fun _ => by kernel_rfl
          have HC := Lib.hid (takes_calls wr p l (identR l s).2 [61] HI.out.1 hlen)
          cases hv : isF l [61] (identR l s).2 with
          | true =>
            rw [hv] at HC
            have HV : Hid ((n = Nd.mk 2 [(identR l s).1, (identR l (stepF (identR l s).2)).1] 0 0 0 [] ∧ s' = (identR l (stepF (identR l s).2)).2) ∧ (takesF l [61] (identR l s).2).2 = stepF (identR l s).2) := Lib.hid (by
              have he := HE.out
              unfold relWords at he
              simp [firstF, hv] at he
              exact ⟨⟨he.1.symm, he.2.symm⟩, by unfold takesF; rw [if_pos hv]⟩)
            have HK := Lib.hid (isF_ne hv)
            clear hv
            go_wp2_with fail
            refine HC.out.mono ?_
            rintro e w4 ⟨rfl, hR4, hu4⟩
            rw [HV.out.2] at hR4
            have HR4 := Lib.hid hR4
            have HU4 := Lib.hid (HI.out.2.1.trans_same hu4)
            clear hR4 hu4
            go_wp2_with fail
            refine (name_calls w4 p l (stepF (identR l s).2) HR4.out hlen).mono ?_
            rintro e w5 ⟨rfl, hR5, hu5⟩
            have hua := (Upto.refl [] w5).alloc (.cells #[.string ⟨(identR l s).1.toArray⟩, .string ⟨(identR l (stepF (identR l s).2)).1.toArray⟩] 9)
            have hz := hua.at (hu5.at (HU4.out.at HNew.out (by have := HpB.out; simp; omega)) (by have := HpB.out; simp; omega)) (by simp)
            have HG : Hid ((w5.alloc (.cells #[.string ⟨(identR l s).1.toArray⟩, .string ⟨(identR l (stepF (identR l s).2)).1.toArray⟩] 9)).heap[w5.heap.size]? = some (.cells #[.string ⟨(identR l s).1.toArray⟩, .string ⟨(identR l (stepF (identR l s).2)).1.toArray⟩] 9 (0, 0))) := Lib.hid (new_at _ _)
            have HS5 := Lib.hid (HU4.out.trans_same hu5).size
            obtain ⟨z0, z1, z2, z3, z4, z5⟩ := cells6 hz
            obtain ⟨y0, y1, y2, y3, y4, y5⟩ := frees6 hz
            have HZ := Lib.hid hz
            have HR5 := Lib.hid (hR5.ext hua)
            have HU5 := Lib.hid ((HU4.out.trans_same hu5).trans_ext hua)
            clear hz hR5 hu5 hua
            go_wp2_with fail
            have h8 := lt_of_heap HNew.out
            have h9 := HS5.out
            have a2 := Adv.step HF.out HA1.out.lt HK.out
            obtain ⟨⟨rfl, rfl⟩, -⟩ := HV.out
            have hst := nd_store HZ.out (.int .i64 2) (.slice (some ⟨w5.heap.size, 0, none⟩) 2 2) (.int .i64 0) (.int .i64 0) (.int .i64 0) (.slice none 0 0)
            obtain ⟨q0, q1, q2, q3, q4, q5⟩ := cells6 hst
            exact bodyPost_ret (v := .agg #[.int .i64 2, .slice (some ⟨w5.heap.size, 0, none⟩) 2 2, .int .i64 0, .int .i64 0, .int .i64 0, .slice none 0 0]) (by simp [results, Tryz.results161, go_sem, q0, q1, q2, q3, q4, q5]) rfl (rdpost_at (P := fun b => New w b ∧ b ≠ w.heap.size) (Nat.le_refl _) HpB.out (HU0.out.trans_same HU5.out) HR5.out HZ.out (HA1.out.trans (a2.trans (identR_adv HF.out a2.lt).1))
              (NdV.atom (names := [(identR l s).1, (identR l (stepF (identR l s).2)).1]) (SlP.block (xs := [sV (identR l s).1, sV (identR l (stepF (identR l s).2)).1]) ⟨by unfold New; omega, by omega⟩ HG.out 2 2 (fun j u hj => by
                match j, hj with
                | 0, hj => simpa [sV] using hj
                | 1, hj => simpa [sV] using hj))) (fun b hb _ => hb))
          | false =>
            rw [hv] at HC
            have HV : Hid ((takesF l [61] (identR l s).2).2 = (identR l s).2 ∧ isF l [61] (identR l s).2 = false) := Lib.hid ⟨by unfold takesF; rw [hv]; rfl, hv⟩
            clear hv
            go_wp2_with fail
            refine HC.out.mono ?_
            rintro e w4 ⟨rfl, hR4, hu4⟩
            have HS := Lib.hid hR4
            have HU := Lib.hid (HI.out.2.1.trans_same hu4)
            clear hR4 hu4
            go_wp2_with fail
            go_roundw
            case rel => exact ⟨1, by omega, by go_num, Lib.hid ⟨by have := HS.out; rw [HV.out.1] at this; exact this, HU.out, fun j hj => by
              by_cases hjk : j < 0
              · exact HI.out.2.2 j hjk
              · obtain rfl : j = 0 := by omega
                exact HV.out.2⟩⟩
            case measure => simp [intOf]
        · have ix : ∀ w, (Instr.index 210 (.agg #[.string ⟨#[61]⟩, .string ⟨#[105, 110]⟩, .string ⟨#[115, 117, 98]⟩, .string ⟨#[97, 100, 106]⟩, .string ⟨#[111, 110]⟩]) (.int .i64 1)).run Tryz.prog w = .ok (.string ⟨#[105, 110]⟩) w := fun _ => by kernel_rfl
          have HC := Lib.hid (takes_calls wr p l (identR l s).2 [105, 110] HI.out.1 hlen)
          cases hv : isF l [105, 110] (identR l s).2 with
          | true =>
            rw [hv] at HC
            have HV : Hid ((n = Nd.mk 3 [(identR l s).1, (identR l (stepF (identR l s).2)).1] 0 0 0 [] ∧ s' = (identR l (stepF (identR l s).2)).2) ∧ (takesF l [105, 110] (identR l s).2).2 = stepF (identR l s).2) := Lib.hid (by
              have he := HE.out
              have f0 : isF l [61] (identR l s).2 = false := HI.out.2.2 0 (by omega)
              unfold relWords at he
              simp [firstF, f0, hv] at he
              exact ⟨⟨he.1.symm, he.2.symm⟩, by unfold takesF; rw [if_pos hv]⟩)
            have HK := Lib.hid (isF_ne hv)
            clear hv
            go_wp2_with fail
            refine HC.out.mono ?_
            rintro e w4 ⟨rfl, hR4, hu4⟩
            rw [HV.out.2] at hR4
            have HR4 := Lib.hid hR4
            have HU4 := Lib.hid (HI.out.2.1.trans_same hu4)
            clear hR4 hu4
            go_wp2_with fail
            refine (name_calls w4 p l (stepF (identR l s).2) HR4.out hlen).mono ?_
            rintro e w5 ⟨rfl, hR5, hu5⟩
            have hua := (Upto.refl [] w5).alloc (.cells #[.string ⟨(identR l s).1.toArray⟩, .string ⟨(identR l (stepF (identR l s).2)).1.toArray⟩] 9)
            have hz := hua.at (hu5.at (HU4.out.at HNew.out (by have := HpB.out; simp; omega)) (by have := HpB.out; simp; omega)) (by simp)
            have HG : Hid ((w5.alloc (.cells #[.string ⟨(identR l s).1.toArray⟩, .string ⟨(identR l (stepF (identR l s).2)).1.toArray⟩] 9)).heap[w5.heap.size]? = some (.cells #[.string ⟨(identR l s).1.toArray⟩, .string ⟨(identR l (stepF (identR l s).2)).1.toArray⟩] 9 (0, 0))) := Lib.hid (new_at _ _)
            have HS5 := Lib.hid (HU4.out.trans_same hu5).size
            obtain ⟨z0, z1, z2, z3, z4, z5⟩ := cells6 hz
            obtain ⟨y0, y1, y2, y3, y4, y5⟩ := frees6 hz
            have HZ := Lib.hid hz
            have HR5 := Lib.hid (hR5.ext hua)
            have HU5 := Lib.hid ((HU4.out.trans_same hu5).trans_ext hua)
            clear hz hR5 hu5 hua
            go_wp2_with fail
            have h8 := lt_of_heap HNew.out
            have h9 := HS5.out
            have a2 := Adv.step HF.out HA1.out.lt HK.out
            obtain ⟨⟨rfl, rfl⟩, -⟩ := HV.out
            have hst := nd_store HZ.out (.int .i64 3) (.slice (some ⟨w5.heap.size, 0, none⟩) 2 2) (.int .i64 0) (.int .i64 0) (.int .i64 0) (.slice none 0 0)
            obtain ⟨q0, q1, q2, q3, q4, q5⟩ := cells6 hst
            exact bodyPost_ret (v := .agg #[.int .i64 3, .slice (some ⟨w5.heap.size, 0, none⟩) 2 2, .int .i64 0, .int .i64 0, .int .i64 0, .slice none 0 0]) (by simp [results, Tryz.results161, go_sem, q0, q1, q2, q3, q4, q5]) rfl (rdpost_at (P := fun b => New w b ∧ b ≠ w.heap.size) (Nat.le_refl _) HpB.out (HU0.out.trans_same HU5.out) HR5.out HZ.out (HA1.out.trans (a2.trans (identR_adv HF.out a2.lt).1))
              (NdV.atom (names := [(identR l s).1, (identR l (stepF (identR l s).2)).1]) (SlP.block (xs := [sV (identR l s).1, sV (identR l (stepF (identR l s).2)).1]) ⟨by unfold New; omega, by omega⟩ HG.out 2 2 (fun j u hj => by
                match j, hj with
                | 0, hj => simpa [sV] using hj
                | 1, hj => simpa [sV] using hj))) (fun b hb _ => hb))
          | false =>
            rw [hv] at HC
            have HV : Hid ((takesF l [105, 110] (identR l s).2).2 = (identR l s).2 ∧ isF l [105, 110] (identR l s).2 = false) := Lib.hid ⟨by unfold takesF; rw [hv]; rfl, hv⟩
            clear hv
            go_wp2_with fail
            refine HC.out.mono ?_
            rintro e w4 ⟨rfl, hR4, hu4⟩
            have HS := Lib.hid hR4
            have HU := Lib.hid (HI.out.2.1.trans_same hu4)
            clear hR4 hu4
            go_wp2_with fail
            go_roundw
            case rel => exact ⟨2, by omega, by go_num, Lib.hid ⟨by have := HS.out; rw [HV.out.1] at this; exact this, HU.out, fun j hj => by
              by_cases hjk : j < 1
              · exact HI.out.2.2 j hjk
              · obtain rfl : j = 1 := by omega
                exact HV.out.2⟩⟩
            case measure => simp [intOf]
        · have ix : ∀ w, (Instr.index 210 (.agg #[.string ⟨#[61]⟩, .string ⟨#[105, 110]⟩, .string ⟨#[115, 117, 98]⟩, .string ⟨#[97, 100, 106]⟩, .string ⟨#[111, 110]⟩]) (.int .i64 2)).run Tryz.prog w = .ok (.string ⟨#[115, 117, 98]⟩) w := fun _ => by kernel_rfl
          have HC := Lib.hid (takes_calls wr p l (identR l s).2 [115, 117, 98] HI.out.1 hlen)
          cases hv : isF l [115, 117, 98] (identR l s).2 with
          | true =>
            rw [hv] at HC
            have HV : Hid ((n = Nd.mk 4 [(identR l s).1, (identR l (stepF (identR l s).2)).1] 0 0 0 [] ∧ s' = (identR l (stepF (identR l s).2)).2) ∧ (takesF l [115, 117, 98] (identR l s).2).2 = stepF (identR l s).2) := Lib.hid (by
              have he := HE.out
              have f0 : isF l [61] (identR l s).2 = false := HI.out.2.2 0 (by omega)
              have f1 : isF l [105, 110] (identR l s).2 = false := HI.out.2.2 1 (by omega)
              unfold relWords at he
              simp [firstF, f0, f1, hv] at he
              exact ⟨⟨he.1.symm, he.2.symm⟩, by unfold takesF; rw [if_pos hv]⟩)
            have HK := Lib.hid (isF_ne hv)
            clear hv
            go_wp2_with fail
            refine HC.out.mono ?_
            rintro e w4 ⟨rfl, hR4, hu4⟩
            rw [HV.out.2] at hR4
            have HR4 := Lib.hid hR4
            have HU4 := Lib.hid (HI.out.2.1.trans_same hu4)
            clear hR4 hu4
            go_wp2_with fail
            refine (name_calls w4 p l (stepF (identR l s).2) HR4.out hlen).mono ?_
            rintro e w5 ⟨rfl, hR5, hu5⟩
            have hua := (Upto.refl [] w5).alloc (.cells #[.string ⟨(identR l s).1.toArray⟩, .string ⟨(identR l (stepF (identR l s).2)).1.toArray⟩] 9)
            have hz := hua.at (hu5.at (HU4.out.at HNew.out (by have := HpB.out; simp; omega)) (by have := HpB.out; simp; omega)) (by simp)
            have HG : Hid ((w5.alloc (.cells #[.string ⟨(identR l s).1.toArray⟩, .string ⟨(identR l (stepF (identR l s).2)).1.toArray⟩] 9)).heap[w5.heap.size]? = some (.cells #[.string ⟨(identR l s).1.toArray⟩, .string ⟨(identR l (stepF (identR l s).2)).1.toArray⟩] 9 (0, 0))) := Lib.hid (new_at _ _)
            have HS5 := Lib.hid (HU4.out.trans_same hu5).size
            obtain ⟨z0, z1, z2, z3, z4, z5⟩ := cells6 hz
            obtain ⟨y0, y1, y2, y3, y4, y5⟩ := frees6 hz
            have HZ := Lib.hid hz
            have HR5 := Lib.hid (hR5.ext hua)
            have HU5 := Lib.hid ((HU4.out.trans_same hu5).trans_ext hua)
            clear hz hR5 hu5 hua
            go_wp2_with fail
            have h8 := lt_of_heap HNew.out
            have h9 := HS5.out
            have a2 := Adv.step HF.out HA1.out.lt HK.out
            obtain ⟨⟨rfl, rfl⟩, -⟩ := HV.out
            have hst := nd_store HZ.out (.int .i64 4) (.slice (some ⟨w5.heap.size, 0, none⟩) 2 2) (.int .i64 0) (.int .i64 0) (.int .i64 0) (.slice none 0 0)
            obtain ⟨q0, q1, q2, q3, q4, q5⟩ := cells6 hst
            exact bodyPost_ret (v := .agg #[.int .i64 4, .slice (some ⟨w5.heap.size, 0, none⟩) 2 2, .int .i64 0, .int .i64 0, .int .i64 0, .slice none 0 0]) (by simp [results, Tryz.results161, go_sem, q0, q1, q2, q3, q4, q5]) rfl (rdpost_at (P := fun b => New w b ∧ b ≠ w.heap.size) (Nat.le_refl _) HpB.out (HU0.out.trans_same HU5.out) HR5.out HZ.out (HA1.out.trans (a2.trans (identR_adv HF.out a2.lt).1))
              (NdV.atom (names := [(identR l s).1, (identR l (stepF (identR l s).2)).1]) (SlP.block (xs := [sV (identR l s).1, sV (identR l (stepF (identR l s).2)).1]) ⟨by unfold New; omega, by omega⟩ HG.out 2 2 (fun j u hj => by
                match j, hj with
                | 0, hj => simpa [sV] using hj
                | 1, hj => simpa [sV] using hj))) (fun b hb _ => hb))
          | false =>
            rw [hv] at HC
            have HV : Hid ((takesF l [115, 117, 98] (identR l s).2).2 = (identR l s).2 ∧ isF l [115, 117, 98] (identR l s).2 = false) := Lib.hid ⟨by unfold takesF; rw [hv]; rfl, hv⟩
            clear hv
            go_wp2_with fail
            refine HC.out.mono ?_
            rintro e w4 ⟨rfl, hR4, hu4⟩
            have HS := Lib.hid hR4
            have HU := Lib.hid (HI.out.2.1.trans_same hu4)
            clear hR4 hu4
            go_wp2_with fail
            go_roundw
            case rel => exact ⟨3, by omega, by go_num, Lib.hid ⟨by have := HS.out; rw [HV.out.1] at this; exact this, HU.out, fun j hj => by
              by_cases hjk : j < 2
              · exact HI.out.2.2 j hjk
              · obtain rfl : j = 2 := by omega
                exact HV.out.2⟩⟩
            case measure => simp [intOf]
        · have ix : ∀ w, (Instr.index 210 (.agg #[.string ⟨#[61]⟩, .string ⟨#[105, 110]⟩, .string ⟨#[115, 117, 98]⟩, .string ⟨#[97, 100, 106]⟩, .string ⟨#[111, 110]⟩]) (.int .i64 3)).run Tryz.prog w = .ok (.string ⟨#[97, 100, 106]⟩) w := fun _ => by kernel_rfl
          have HC := Lib.hid (takes_calls wr p l (identR l s).2 [97, 100, 106] HI.out.1 hlen)
          cases hv : isF l [97, 100, 106] (identR l s).2 with
          | true =>
            rw [hv] at HC
            have HV : Hid ((n = Nd.mk 5 [(identR l s).1, (identR l (stepF (identR l s).2)).1] 0 0 0 [] ∧ s' = (identR l (stepF (identR l s).2)).2) ∧ (takesF l [97, 100, 106] (identR l s).2).2 = stepF (identR l s).2) := Lib.hid (by
              have he := HE.out
              have f0 : isF l [61] (identR l s).2 = false := HI.out.2.2 0 (by omega)
              have f1 : isF l [105, 110] (identR l s).2 = false := HI.out.2.2 1 (by omega)
              have f2 : isF l [115, 117, 98] (identR l s).2 = false := HI.out.2.2 2 (by omega)
              unfold relWords at he
              simp [firstF, f0, f1, f2, hv] at he
              exact ⟨⟨he.1.symm, he.2.symm⟩, by unfold takesF; rw [if_pos hv]⟩)
            have HK := Lib.hid (isF_ne hv)
            clear hv
            go_wp2_with fail
            refine HC.out.mono ?_
            rintro e w4 ⟨rfl, hR4, hu4⟩
            rw [HV.out.2] at hR4
            have HR4 := Lib.hid hR4
            have HU4 := Lib.hid (HI.out.2.1.trans_same hu4)
            clear hR4 hu4
            go_wp2_with fail
            refine (name_calls w4 p l (stepF (identR l s).2) HR4.out hlen).mono ?_
            rintro e w5 ⟨rfl, hR5, hu5⟩
            have hua := (Upto.refl [] w5).alloc (.cells #[.string ⟨(identR l s).1.toArray⟩, .string ⟨(identR l (stepF (identR l s).2)).1.toArray⟩] 9)
            have hz := hua.at (hu5.at (HU4.out.at HNew.out (by have := HpB.out; simp; omega)) (by have := HpB.out; simp; omega)) (by simp)
            have HG : Hid ((w5.alloc (.cells #[.string ⟨(identR l s).1.toArray⟩, .string ⟨(identR l (stepF (identR l s).2)).1.toArray⟩] 9)).heap[w5.heap.size]? = some (.cells #[.string ⟨(identR l s).1.toArray⟩, .string ⟨(identR l (stepF (identR l s).2)).1.toArray⟩] 9 (0, 0))) := Lib.hid (new_at _ _)
            have HS5 := Lib.hid (HU4.out.trans_same hu5).size
            obtain ⟨z0, z1, z2, z3, z4, z5⟩ := cells6 hz
            obtain ⟨y0, y1, y2, y3, y4, y5⟩ := frees6 hz
            have HZ := Lib.hid hz
            have HR5 := Lib.hid (hR5.ext hua)
            have HU5 := Lib.hid ((HU4.out.trans_same hu5).trans_ext hua)
            clear hz hR5 hu5 hua
            go_wp2_with fail
            have h8 := lt_of_heap HNew.out
            have h9 := HS5.out
            have a2 := Adv.step HF.out HA1.out.lt HK.out
            obtain ⟨⟨rfl, rfl⟩, -⟩ := HV.out
            have hst := nd_store HZ.out (.int .i64 5) (.slice (some ⟨w5.heap.size, 0, none⟩) 2 2) (.int .i64 0) (.int .i64 0) (.int .i64 0) (.slice none 0 0)
            obtain ⟨q0, q1, q2, q3, q4, q5⟩ := cells6 hst
            exact bodyPost_ret (v := .agg #[.int .i64 5, .slice (some ⟨w5.heap.size, 0, none⟩) 2 2, .int .i64 0, .int .i64 0, .int .i64 0, .slice none 0 0]) (by simp [results, Tryz.results161, go_sem, q0, q1, q2, q3, q4, q5]) rfl (rdpost_at (P := fun b => New w b ∧ b ≠ w.heap.size) (Nat.le_refl _) HpB.out (HU0.out.trans_same HU5.out) HR5.out HZ.out (HA1.out.trans (a2.trans (identR_adv HF.out a2.lt).1))
              (NdV.atom (names := [(identR l s).1, (identR l (stepF (identR l s).2)).1]) (SlP.block (xs := [sV (identR l s).1, sV (identR l (stepF (identR l s).2)).1]) ⟨by unfold New; omega, by omega⟩ HG.out 2 2 (fun j u hj => by
                match j, hj with
                | 0, hj => simpa [sV] using hj
                | 1, hj => simpa [sV] using hj))) (fun b hb _ => hb))
          | false =>
            rw [hv] at HC
            have HV : Hid ((takesF l [97, 100, 106] (identR l s).2).2 = (identR l s).2 ∧ isF l [97, 100, 106] (identR l s).2 = false) := Lib.hid ⟨by unfold takesF; rw [hv]; rfl, hv⟩
            clear hv
            go_wp2_with fail
            refine HC.out.mono ?_
            rintro e w4 ⟨rfl, hR4, hu4⟩
            have HS := Lib.hid hR4
            have HU := Lib.hid (HI.out.2.1.trans_same hu4)
            clear hR4 hu4
            go_wp2_with fail
            go_roundw
            case rel => exact ⟨4, by omega, by go_num, Lib.hid ⟨by have := HS.out; rw [HV.out.1] at this; exact this, HU.out, fun j hj => by
              by_cases hjk : j < 3
              · exact HI.out.2.2 j hjk
              · obtain rfl : j = 3 := by omega
                exact HV.out.2⟩⟩
            case measure => simp [intOf]
        · have ix : ∀ w, (Instr.index 210 (.agg #[.string ⟨#[61]⟩, .string ⟨#[105, 110]⟩, .string ⟨#[115, 117, 98]⟩, .string ⟨#[97, 100, 106]⟩, .string ⟨#[111, 110]⟩]) (.int .i64 4)).run Tryz.prog w = .ok (.string ⟨#[111, 110]⟩) w := fun _ => by kernel_rfl
          have HC := Lib.hid (takes_calls wr p l (identR l s).2 [111, 110] HI.out.1 hlen)
          cases hv : isF l [111, 110] (identR l s).2 with
          | true =>
            rw [hv] at HC
            have HV : Hid ((n = Nd.mk 6 [(identR l s).1, (identR l (stepF (identR l s).2)).1] 0 0 0 [] ∧ s' = (identR l (stepF (identR l s).2)).2) ∧ (takesF l [111, 110] (identR l s).2).2 = stepF (identR l s).2) := Lib.hid (by
              have he := HE.out
              have f0 : isF l [61] (identR l s).2 = false := HI.out.2.2 0 (by omega)
              have f1 : isF l [105, 110] (identR l s).2 = false := HI.out.2.2 1 (by omega)
              have f2 : isF l [115, 117, 98] (identR l s).2 = false := HI.out.2.2 2 (by omega)
              have f3 : isF l [97, 100, 106] (identR l s).2 = false := HI.out.2.2 3 (by omega)
              unfold relWords at he
              simp [firstF, f0, f1, f2, f3, hv] at he
              exact ⟨⟨he.1.symm, he.2.symm⟩, by unfold takesF; rw [if_pos hv]⟩)
            have HK := Lib.hid (isF_ne hv)
            clear hv
            go_wp2_with fail
            refine HC.out.mono ?_
            rintro e w4 ⟨rfl, hR4, hu4⟩
            rw [HV.out.2] at hR4
            have HR4 := Lib.hid hR4
            have HU4 := Lib.hid (HI.out.2.1.trans_same hu4)
            clear hR4 hu4
            go_wp2_with fail
            refine (name_calls w4 p l (stepF (identR l s).2) HR4.out hlen).mono ?_
            rintro e w5 ⟨rfl, hR5, hu5⟩
            have hua := (Upto.refl [] w5).alloc (.cells #[.string ⟨(identR l s).1.toArray⟩, .string ⟨(identR l (stepF (identR l s).2)).1.toArray⟩] 9)
            have hz := hua.at (hu5.at (HU4.out.at HNew.out (by have := HpB.out; simp; omega)) (by have := HpB.out; simp; omega)) (by simp)
            have HG : Hid ((w5.alloc (.cells #[.string ⟨(identR l s).1.toArray⟩, .string ⟨(identR l (stepF (identR l s).2)).1.toArray⟩] 9)).heap[w5.heap.size]? = some (.cells #[.string ⟨(identR l s).1.toArray⟩, .string ⟨(identR l (stepF (identR l s).2)).1.toArray⟩] 9 (0, 0))) := Lib.hid (new_at _ _)
            have HS5 := Lib.hid (HU4.out.trans_same hu5).size
            obtain ⟨z0, z1, z2, z3, z4, z5⟩ := cells6 hz
            obtain ⟨y0, y1, y2, y3, y4, y5⟩ := frees6 hz
            have HZ := Lib.hid hz
            have HR5 := Lib.hid (hR5.ext hua)
            have HU5 := Lib.hid ((HU4.out.trans_same hu5).trans_ext hua)
            clear hz hR5 hu5 hua
            go_wp2_with fail
            have h8 := lt_of_heap HNew.out
            have h9 := HS5.out
            have a2 := Adv.step HF.out HA1.out.lt HK.out
            obtain ⟨⟨rfl, rfl⟩, -⟩ := HV.out
            have hst := nd_store HZ.out (.int .i64 6) (.slice (some ⟨w5.heap.size, 0, none⟩) 2 2) (.int .i64 0) (.int .i64 0) (.int .i64 0) (.slice none 0 0)
            obtain ⟨q0, q1, q2, q3, q4, q5⟩ := cells6 hst
            exact bodyPost_ret (v := .agg #[.int .i64 6, .slice (some ⟨w5.heap.size, 0, none⟩) 2 2, .int .i64 0, .int .i64 0, .int .i64 0, .slice none 0 0]) (by simp [results, Tryz.results161, go_sem, q0, q1, q2, q3, q4, q5]) rfl (rdpost_at (P := fun b => New w b ∧ b ≠ w.heap.size) (Nat.le_refl _) HpB.out (HU0.out.trans_same HU5.out) HR5.out HZ.out (HA1.out.trans (a2.trans (identR_adv HF.out a2.lt).1))
              (NdV.atom (names := [(identR l s).1, (identR l (stepF (identR l s).2)).1]) (SlP.block (xs := [sV (identR l s).1, sV (identR l (stepF (identR l s).2)).1]) ⟨by unfold New; omega, by omega⟩ HG.out 2 2 (fun j u hj => by
                match j, hj with
                | 0, hj => simpa [sV] using hj
                | 1, hj => simpa [sV] using hj))) (fun b hb _ => hb))
          | false =>
            rw [hv] at HC
            have HV : Hid ((takesF l [111, 110] (identR l s).2).2 = (identR l s).2 ∧ isF l [111, 110] (identR l s).2 = false) := Lib.hid ⟨by unfold takesF; rw [hv]; rfl, hv⟩
            clear hv
            go_wp2_with fail
            refine HC.out.mono ?_
            rintro e w4 ⟨rfl, hR4, hu4⟩
            have HS := Lib.hid hR4
            have HU := Lib.hid (HI.out.2.1.trans_same hu4)
            clear hR4 hu4
            go_wp2_with fail
            go_roundw
            case rel => exact ⟨5, by omega, by go_num, Lib.hid ⟨by have := HS.out; rw [HV.out.1] at this; exact this, HU.out, fun j hj => by
              by_cases hjk : j < 4
              · exact HI.out.2.2 j hjk
              · obtain rfl : j = 4 := by omega
                exact HV.out.2⟩⟩
            case measure => simp [intOf]
        · have HV : Hid (n = .zero ∧ s' = wrongF 3 (identR l s).2) := Lib.hid (by
            have he := HE.out
            have f0 : isF l [61] (identR l s).2 = false := HI.out.2.2 0 (by omega)
            have f1 : isF l [105, 110] (identR l s).2 = false := HI.out.2.2 1 (by omega)
            have f2 : isF l [115, 117, 98] (identR l s).2 = false := HI.out.2.2 2 (by omega)
            have f3 : isF l [97, 100, 106] (identR l s).2 = false := HI.out.2.2 3 (by omega)
            have f4 : isF l [111, 110] (identR l s).2 = false := HI.out.2.2 4 (by omega)
            unfold relWords at he
            simp [firstF, f0, f1, f2, f3, f4] at he
            exact ⟨he.1.symm, he.2.symm⟩)
          go_wp2_with fail
          refine (wrong_calls wr p 3 l (identR l s).2 HI.out.1).mono ?_
          rintro e w5 ⟨rfl, hR5, hu5⟩
          have hz := hu5.at (HI.out.2.1.at HNew.out (by have := HpB.out; simp; omega)) (by have := HpB.out; simp; omega)
          obtain ⟨z0, z1, z2, z3, z4, z5⟩ := cells6 hz
          obtain ⟨y0, y1, y2, y3, y4, y5⟩ := frees6 hz
          have HZ := Lib.hid hz
          have HR5 := Lib.hid hR5
          have HU5 := Lib.hid (HI.out.2.1.trans_same hu5)
          clear hz hR5 hu5
          go_wp2_with fail
          obtain ⟨rfl, rfl⟩ := HV.out
          have hst := nd_store HZ.out (.int .i64 0) (.slice none 0 0) (.int .i64 0) (.int .i64 0) (.int .i64 0) (.slice none 0 0)
          obtain ⟨q0, q1, q2, q3, q4, q5⟩ := cells6 hst
          exact bodyPost_ret (v := .agg #[.int .i64 0, .slice none 0 0, .int .i64 0, .int .i64 0, .int .i64 0, .slice none 0 0]) (by simp [results, Tryz.results161, go_sem, q0, q1, q2, q3, q4, q5]) rfl (rdpost_at (P := fun _ => False) (Nat.le_refl _) HpB.out (HU0.out.trans_same HU5.out) HR5.out HZ.out (HA1.out.trans (Adv.wrong HA1.out.lt 3)) (NdV.zero _ _) (fun b hb _ => hb.elim))
set_option maxRecDepth 100000 in
set_option maxHeartbeats 12800000 in
theorem operand_word (w : World) (p : Nat) (l : List Tok) (s s' : PS) (n : Nd) (k : FuncId) (hx : Cx w p l) (h : RdAt w p l s) (tk tv tl tc : Nat) (tx : List UInt8) (HT : Hid (tkAt l s = ⟨tk, tx, tv, tl, tc⟩)) (hk34 : tk = 3 ∨ tk = 4) (h0 : s.er = 0) (HL : Hid (∀ (w : World) (b : Nat), MapL Tryz.prog 9 w b pieceL → (Instr.lookup 193 (.map (some b)) (.string ⟨tx.toArray⟩) true).run Tryz.prog w = .ok (.tuple #[.agg #[.func (.func k) #[] #[]], .bool true]) w)) (hk : ∀ args w, (callFunc k args).run Tryz.prog w = .ok (.enter k args) w) (HC : Hid (∀ W4, Upto [p] w W4 → Cx W4 p l → RdAt W4 p l s → Calls Tryz.prog k #[.pointer (some ⟨p, 0, none⟩)] W4 (RdPost W4 p l s n s'))) :
    Calls Tryz.prog 147 #[.pointer (some ⟨p, 0, none⟩)] w (RdPost w p l s n s') := by
  have k0 : ((s.er : Int) == 0) = true := by simp [h0]
  clear h0
  rcases hk34 with h3 | h4
  · subst h3
    have HpB : Hid (p < w.heap.size) := Lib.hid h.lt
    have hu0 : Upto [] w (w.alloc (.cells #[.int .i64 0, .slice none 0 0, .int .i64 0, .int .i64 0, .int .i64 0, .slice none 0 0] 34)) := (Upto.refl [] w).alloc _
    have HR0 := Lib.hid (h.ext hu0)
    have HX0 := Lib.hid (hx.ext hu0)
    have HU0 : Hid (Upto [p] w (w.alloc (.cells #[.int .i64 0, .slice none 0 0, .int .i64 0, .int .i64 0, .int .i64 0, .slice none 0 0] 34))) := Lib.hid (hu0.mono (by simp))
    have HNew : Hid ((w.alloc (.cells #[.int .i64 0, .slice none 0 0, .int .i64 0, .int .i64 0, .int .i64 0, .slice none 0 0] 34)).heap[w.heap.size]? = some (.cells #[.int .i64 0, .slice none 0 0, .int .i64 0, .int .i64 0, .int .i64 0, .slice none 0 0] 34 (0, 0))) := Lib.hid (new_at _ _)
    have HN := Lib.hid (next_calls _ p l s HR0.out)
    clear h hu0
    go_enter Tryz.func147, Tryz.ntmps147
    go_wp2_with fail
    refine HN.out.mono ?_
    rintro e w1 ⟨rfl, hu1⟩
    rw [HT.out]
    unfold tkA
    have HU1 := Lib.hid (HU0.out.trans_ext hu1)
    have HU2 : Hid (Upto [p] w (w1.alloc (.cells #[.int .i64 3, .string ⟨tx.toArray⟩, .int .i64 tv, .int .i64 tl, .int .i64 tc] 83))) := Lib.hid ((HU0.out.trans_ext hu1).alloc _)
    have HZ2 : Hid ((w1.alloc (.cells #[.int .i64 3, .string ⟨tx.toArray⟩, .int .i64 tv, .int .i64 tl, .int .i64 tc] 83)).heap[w.heap.size]? = some (.cells #[.int .i64 0, .slice none 0 0, .int .i64 0, .int .i64 0, .int .i64 0, .slice none 0 0] 34 (0, 0))) := Lib.hid (alloc_old (hu1.at HNew.out (by simp)) _)
    have HTB : Hid ((w1.alloc (.cells #[.int .i64 3, .string ⟨tx.toArray⟩, .int .i64 tv, .int .i64 tl, .int .i64 tc] 83)).heap[w1.heap.size]? = some (.cells #[.int .i64 3, .string ⟨tx.toArray⟩, .int .i64 tv, .int .i64 tl, .int .i64 tc] 83 (0, 0))) := Lib.hid (new_at _ _)
    have HR2 : Hid (RdAt (w1.alloc (.cells #[.int .i64 3, .string ⟨tx.toArray⟩, .int .i64 tv, .int .i64 tl, .int .i64 tc] 83)) p l s) := Lib.hid ((HR0.out.ext hu1).ext ((Upto.refl [] w1).alloc _))
    have HX2 : Hid (Cx (w1.alloc (.cells #[.int .i64 3, .string ⟨tx.toArray⟩, .int .i64 tv, .int .i64 tl, .int .i64 tc] 83)) p l) := Lib.hid (HX0.out.upto ((hu1.mono (by simp)).alloc _))
    have HSZ : Hid (w.heap.size < (w1.alloc (.cells #[.int .i64 3, .string ⟨tx.toArray⟩, .int .i64 tv, .int .i64 tl, .int .i64 tc] 83)).heap.size) := Lib.hid (lt_of_heap HZ2.out)
    clear hu1 HN
    have k3 : ((3 : Int) == 3) = true := rfl
    have x0 := cell_of HTB.out 0
    simp only [List.getElem?_toArray, List.getElem?_cons_zero] at x0
    have xa := cell_of ((Upto.refl [] (w1.alloc (.cells #[.int .i64 3, .string ⟨tx.toArray⟩, .int .i64 tv, .int .i64 tl, .int .i64 tc] 83))).drew.at HTB.out (by simp)) 1
    have xb := cell_of (((Upto.refl [] (w1.alloc (.cells #[.int .i64 3, .string ⟨tx.toArray⟩, .int .i64 tv, .int .i64 tl, .int .i64 tc] 83))).alloc (.cells #[.nilFunc] 191)).drew.at HTB.out (by simp)) 1
    simp only [List.getElem?_toArray, List.getElem?_cons_zero, List.getElem?_cons_succ] at xa xb
    go_wp2_with fail
    go_region_with (
      first
      | (refine (pieces_calls (w1.alloc (.cells #[.int .i64 3, .string ⟨tx.toArray⟩, .int .i64 tv, .int .i64 tl, .int .i64 tc] 83)).drew).mono ?_
         rintro e w3 ⟨b, rfl, hm3, hu3⟩
         have HU3 : Hid (Upto [] (w1.alloc (.cells #[.int .i64 3, .string ⟨tx.toArray⟩, .int .i64 tv, .int .i64 tl, .int .i64 tc] 83)) w3) := Lib.hid ((Upto.refl [] _).drew.trans_ext hu3)
         have l3 := HL.out w3 b hm3
         have l4 := HL.out (w3.alloc (.cells #[.nilFunc] 191)) b (hm3.upto ((Upto.refl [] w3).alloc _) (by simp))
         have xc := cell_of (HU3.out.at HTB.out (by simp)) 1
         have xd := cell_of (((Upto.refl [] w3).alloc (.cells #[.nilFunc] 191)).at (HU3.out.at HTB.out (by simp)) (by simp)) 1
         simp only [List.getElem?_toArray, List.getElem?_cons_zero, List.getElem?_cons_succ] at xc xd
         clear hm3 hu3)
      | (refine (pieces_calls ((w1.alloc (.cells #[.int .i64 3, .string ⟨tx.toArray⟩, .int .i64 tv, .int .i64 tl, .int .i64 tc] 83)).alloc (.cells #[.nilFunc] 191)).drew).mono ?_
         rintro e w3 ⟨b, rfl, hm3, hu3⟩
         have HU3 : Hid (Upto [] (w1.alloc (.cells #[.int .i64 3, .string ⟨tx.toArray⟩, .int .i64 tv, .int .i64 tl, .int .i64 tc] 83)) w3) := Lib.hid (((Upto.refl [] _).alloc _).drew.trans_ext hu3)
         have l3 := HL.out w3 b hm3
         have xc := cell_of (HU3.out.at HTB.out (by simp)) 1
         simp only [List.getElem?_toArray, List.getElem?_cons_zero, List.getElem?_cons_succ] at xc
         have hn2 := hu3.at ((Upto.refl [] ((w1.alloc (.cells #[.int .i64 3, .string ⟨tx.toArray⟩, .int .i64 tv, .int .i64 tl, .int .i64 tc] 83)).alloc (.cells #[.nilFunc] 191))).drew.at (new_at (w1.alloc (.cells #[.int .i64 3, .string ⟨tx.toArray⟩, .int .i64 tv, .int .i64 tl, .int .i64 tc] 83)) (.cells #[.nilFunc] 191)) (by simp)) (by simp)
         (try simp only [World.size_alloc] at hn2)
         have z0 := cell_of hn2 0
         have y0 := free_of hn2 0
         simp only [List.getElem?_toArray, List.getElem?_cons_zero] at z0
         have HN2 := Lib.hid hn2
         clear hm3 hu3 hn2))
    all_goals (
      first
      | (obtain ⟨W4, Bp, hW4, hBp, hn4, hu4⟩ : ∃ W4 Bp, W4 = w3.alloc (.cells #[.func (.func k) #[] #[]] 191) ∧ Bp = w3.heap.size ∧ W4.heap[Bp]? = some (.cells #[.func (.func k) #[] #[]] 191 (0, 0)) ∧ Upto [] (w1.alloc (.cells #[.int .i64 3, .string ⟨tx.toArray⟩, .int .i64 tv, .int .i64 tl, .int .i64 tc] 83)) W4 :=
           ⟨_, _, rfl, rfl, new_at _ _, HU3.out.alloc _⟩
         rw [← hW4, ← hBp]
         clear hW4 hBp)
      | (obtain ⟨W4, Bp, hW4, hBp, hn4, hu4⟩ : ∃ W4 Bp, W4 = w3.setCell ⟨w1.heap.size + 1, 0, none⟩ (.func (.func k) #[] #[]) ∧ Bp = w1.heap.size + 1 ∧ W4.heap[Bp]? = some (.cells #[.func (.func k) #[] #[]] 191 (0, 0)) ∧ Upto [] (w1.alloc (.cells #[.int .i64 3, .string ⟨tx.toArray⟩, .int .i64 tv, .int .i64 tl, .int .i64 tc] 83)) W4 :=
           ⟨_, _, rfl, rfl, by have := set_same HN2.out 0 (.func (.func k) #[] #[]); simpa using this, HU3.out.setCell (Or.inr (by simp)) _⟩
         rw [← hW4, ← hBp]
         clear hW4 hBp)
      | (obtain ⟨W4, Bp, hW4, hBp, hn4, hu4⟩ : ∃ W4 Bp, W4 = w3 ∧ Bp = w1.heap.size + 1 ∧ W4.heap[Bp]? = some (.cells #[.func (.func k) #[] #[]] 191 (0, 0)) ∧ Upto [] (w1.alloc (.cells #[.int .i64 3, .string ⟨tx.toArray⟩, .int .i64 tv, .int .i64 tl, .int .i64 tc] 83)) W4 :=
           ⟨_, _, rfl, rfl, HN2.out, HU3.out⟩
         rw [← hW4, ← hBp]
         clear hW4 hBp)
      have HR4 := Lib.hid (HR2.out.ext hu4)
      have HX4 := Lib.hid (HX2.out.ext hu4)
      have HU4 := Lib.hid (HU2.out.trans_ext hu4)
      have hz4 := hu4.at HZ2.out (by simp)
      have HNW : Hid (W4.heap[w.heap.size]? = some (.cells #[.int .i64 0, .slice none 0 0, .int .i64 0, .int .i64 0, .int .i64 0, .slice none 0 0] 34 (0, 0))) := Lib.hid hz4
      have q0 := cell_of hn4 0
      simp only [List.getElem?_toArray, List.getElem?_cons_zero] at q0
      obtain ⟨⟨vr, hb4, -, -⟩, -, -⟩ := id HR4.out
      have b2 := cell_of hb4 2
      unfold rdC at b2
      simp only [List.getElem?_toArray, List.getElem?_cons_zero, List.getElem?_cons_succ] at b2
      clear hn4 hu4 hz4 hb4
      go_wp2_with fail
      refine (HC.out W4 HU4.out HX4.out HR4.out).mono ?_
      rintro e w5 ⟨vv, rfl, hn, hR5, hu5, ha⟩
      obtain ⟨oa, na1, na2, na3, sa, ma, qa, la1, la2, la3, rfl⟩ := hn.six
      have hz := hu5.at HNW.out (by have := HpB.out; simp; omega)
      obtain ⟨z0, z1, z2, z3, z4, z5⟩ := cells6 hz
      obtain ⟨y0, y1, y2, y3, y4, y5⟩ := frees6 hz
      have HZ := Lib.hid hz
      have HN5 := Lib.hid hn
      have HR5 := Lib.hid hR5
      have HU5 := Lib.hid (HU4.out.trans_same hu5)
      have HA := Lib.hid ha
      have HS4 := Lib.hid (And.intro (lt_of_heap HNW.out) HU4.out.size)
      clear hn hR5 hu5 ha hz
      go_wp2_with fail
      have hst := nd_store HZ.out (.int .i64 oa) (.slice na1 na2 na3) (.int .i64 sa) (.int .i64 ma) (.int .i64 qa) (.slice la1 la2 la3)
      obtain ⟨q0, q1, q2, q3, q4, q5⟩ := cells6 hst
      exact bodyPost_ret (v := .agg #[.int .i64 oa, .slice na1 na2 na3, .int .i64 sa, .int .i64 ma, .int .i64 qa, .slice la1 la2 la3]) (by simp [results, Tryz.results147, go_sem, q0, q1, q2, q3, q4, q5]) rfl (rdpost_at (Nat.le_refl _) HpB.out HU5.out HR5.out HZ.out HA.out HN5.out (fun b hb _ => by have h1 := HS4.out; unfold New at hb ⊢; omega)))
  · subst h4
    have HpB : Hid (p < w.heap.size) := Lib.hid h.lt
    have hu0 : Upto [] w (w.alloc (.cells #[.int .i64 0, .slice none 0 0, .int .i64 0, .int .i64 0, .int .i64 0, .slice none 0 0] 34)) := (Upto.refl [] w).alloc _
    have HR0 := Lib.hid (h.ext hu0)
    have HX0 := Lib.hid (hx.ext hu0)
    have HU0 : Hid (Upto [p] w (w.alloc (.cells #[.int .i64 0, .slice none 0 0, .int .i64 0, .int .i64 0, .int .i64 0, .slice none 0 0] 34))) := Lib.hid (hu0.mono (by simp))
    have HNew : Hid ((w.alloc (.cells #[.int .i64 0, .slice none 0 0, .int .i64 0, .int .i64 0, .int .i64 0, .slice none 0 0] 34)).heap[w.heap.size]? = some (.cells #[.int .i64 0, .slice none 0 0, .int .i64 0, .int .i64 0, .int .i64 0, .slice none 0 0] 34 (0, 0))) := Lib.hid (new_at _ _)
    have HN := Lib.hid (next_calls _ p l s HR0.out)
    clear h hu0
    go_enter Tryz.func147, Tryz.ntmps147
    go_wp2_with fail
    refine HN.out.mono ?_
    rintro e w1 ⟨rfl, hu1⟩
    rw [HT.out]
    unfold tkA
    have HU1 := Lib.hid (HU0.out.trans_ext hu1)
    have HU2 : Hid (Upto [p] w (w1.alloc (.cells #[.int .i64 4, .string ⟨tx.toArray⟩, .int .i64 tv, .int .i64 tl, .int .i64 tc] 83))) := Lib.hid ((HU0.out.trans_ext hu1).alloc _)
    have HZ2 : Hid ((w1.alloc (.cells #[.int .i64 4, .string ⟨tx.toArray⟩, .int .i64 tv, .int .i64 tl, .int .i64 tc] 83)).heap[w.heap.size]? = some (.cells #[.int .i64 0, .slice none 0 0, .int .i64 0, .int .i64 0, .int .i64 0, .slice none 0 0] 34 (0, 0))) := Lib.hid (alloc_old (hu1.at HNew.out (by simp)) _)
    have HTB : Hid ((w1.alloc (.cells #[.int .i64 4, .string ⟨tx.toArray⟩, .int .i64 tv, .int .i64 tl, .int .i64 tc] 83)).heap[w1.heap.size]? = some (.cells #[.int .i64 4, .string ⟨tx.toArray⟩, .int .i64 tv, .int .i64 tl, .int .i64 tc] 83 (0, 0))) := Lib.hid (new_at _ _)
    have HR2 : Hid (RdAt (w1.alloc (.cells #[.int .i64 4, .string ⟨tx.toArray⟩, .int .i64 tv, .int .i64 tl, .int .i64 tc] 83)) p l s) := Lib.hid ((HR0.out.ext hu1).ext ((Upto.refl [] w1).alloc _))
    have HX2 : Hid (Cx (w1.alloc (.cells #[.int .i64 4, .string ⟨tx.toArray⟩, .int .i64 tv, .int .i64 tl, .int .i64 tc] 83)) p l) := Lib.hid (HX0.out.upto ((hu1.mono (by simp)).alloc _))
    have HSZ : Hid (w.heap.size < (w1.alloc (.cells #[.int .i64 4, .string ⟨tx.toArray⟩, .int .i64 tv, .int .i64 tl, .int .i64 tc] 83)).heap.size) := Lib.hid (lt_of_heap HZ2.out)
    clear hu1 HN
    have k3 : ((4 : Int) == 3) = false := rfl
    have k4 : ((4 : Int) == 4) = true := rfl
    have x0 := cell_of HTB.out 0
    simp only [List.getElem?_toArray, List.getElem?_cons_zero] at x0
    have xa := cell_of ((Upto.refl [] (w1.alloc (.cells #[.int .i64 4, .string ⟨tx.toArray⟩, .int .i64 tv, .int .i64 tl, .int .i64 tc] 83))).drew.at HTB.out (by simp)) 1
    have xb := cell_of (((Upto.refl [] (w1.alloc (.cells #[.int .i64 4, .string ⟨tx.toArray⟩, .int .i64 tv, .int .i64 tl, .int .i64 tc] 83))).alloc (.cells #[.nilFunc] 191)).drew.at HTB.out (by simp)) 1
    simp only [List.getElem?_toArray, List.getElem?_cons_zero, List.getElem?_cons_succ] at xa xb
    go_wp2_with fail
    go_region_with (
      first
      | (refine (pieces_calls (w1.alloc (.cells #[.int .i64 4, .string ⟨tx.toArray⟩, .int .i64 tv, .int .i64 tl, .int .i64 tc] 83)).drew).mono ?_
         rintro e w3 ⟨b, rfl, hm3, hu3⟩
         have HU3 : Hid (Upto [] (w1.alloc (.cells #[.int .i64 4, .string ⟨tx.toArray⟩, .int .i64 tv, .int .i64 tl, .int .i64 tc] 83)) w3) := Lib.hid ((Upto.refl [] _).drew.trans_ext hu3)
         have l3 := HL.out w3 b hm3
         have l4 := HL.out (w3.alloc (.cells #[.nilFunc] 191)) b (hm3.upto ((Upto.refl [] w3).alloc _) (by simp))
         have xc := cell_of (HU3.out.at HTB.out (by simp)) 1
         have xd := cell_of (((Upto.refl [] w3).alloc (.cells #[.nilFunc] 191)).at (HU3.out.at HTB.out (by simp)) (by simp)) 1
         simp only [List.getElem?_toArray, List.getElem?_cons_zero, List.getElem?_cons_succ] at xc xd
         clear hm3 hu3)
      | (refine (pieces_calls ((w1.alloc (.cells #[.int .i64 4, .string ⟨tx.toArray⟩, .int .i64 tv, .int .i64 tl, .int .i64 tc] 83)).alloc (.cells #[.nilFunc] 191)).drew).mono ?_
         rintro e w3 ⟨b, rfl, hm3, hu3⟩
         have HU3 : Hid (Upto [] (w1.alloc (.cells #[.int .i64 4, .string ⟨tx.toArray⟩, .int .i64 tv, .int .i64 tl, .int .i64 tc] 83)) w3) := Lib.hid (((Upto.refl [] _).alloc _).drew.trans_ext hu3)
         have l3 := HL.out w3 b hm3
         have xc := cell_of (HU3.out.at HTB.out (by simp)) 1
         simp only [List.getElem?_toArray, List.getElem?_cons_zero, List.getElem?_cons_succ] at xc
         have hn2 := hu3.at ((Upto.refl [] ((w1.alloc (.cells #[.int .i64 4, .string ⟨tx.toArray⟩, .int .i64 tv, .int .i64 tl, .int .i64 tc] 83)).alloc (.cells #[.nilFunc] 191))).drew.at (new_at (w1.alloc (.cells #[.int .i64 4, .string ⟨tx.toArray⟩, .int .i64 tv, .int .i64 tl, .int .i64 tc] 83)) (.cells #[.nilFunc] 191)) (by simp)) (by simp)
         (try simp only [World.size_alloc] at hn2)
         have z0 := cell_of hn2 0
         have y0 := free_of hn2 0
         simp only [List.getElem?_toArray, List.getElem?_cons_zero] at z0
         have HN2 := Lib.hid hn2
         clear hm3 hu3 hn2))
    all_goals (
      first
      | (obtain ⟨W4, Bp, hW4, hBp, hn4, hu4⟩ : ∃ W4 Bp, W4 = w3.alloc (.cells #[.func (.func k) #[] #[]] 191) ∧ Bp = w3.heap.size ∧ W4.heap[Bp]? = some (.cells #[.func (.func k) #[] #[]] 191 (0, 0)) ∧ Upto [] (w1.alloc (.cells #[.int .i64 4, .string ⟨tx.toArray⟩, .int .i64 tv, .int .i64 tl, .int .i64 tc] 83)) W4 :=
           ⟨_, _, rfl, rfl, new_at _ _, HU3.out.alloc _⟩
         rw [← hW4, ← hBp]
         clear hW4 hBp)
      | (obtain ⟨W4, Bp, hW4, hBp, hn4, hu4⟩ : ∃ W4 Bp, W4 = w3.setCell ⟨w1.heap.size + 1, 0, none⟩ (.func (.func k) #[] #[]) ∧ Bp = w1.heap.size + 1 ∧ W4.heap[Bp]? = some (.cells #[.func (.func k) #[] #[]] 191 (0, 0)) ∧ Upto [] (w1.alloc (.cells #[.int .i64 4, .string ⟨tx.toArray⟩, .int .i64 tv, .int .i64 tl, .int .i64 tc] 83)) W4 :=
           ⟨_, _, rfl, rfl, by have := set_same HN2.out 0 (.func (.func k) #[] #[]); simpa using this, HU3.out.setCell (Or.inr (by simp)) _⟩
         rw [← hW4, ← hBp]
         clear hW4 hBp)
      | (obtain ⟨W4, Bp, hW4, hBp, hn4, hu4⟩ : ∃ W4 Bp, W4 = w3 ∧ Bp = w1.heap.size + 1 ∧ W4.heap[Bp]? = some (.cells #[.func (.func k) #[] #[]] 191 (0, 0)) ∧ Upto [] (w1.alloc (.cells #[.int .i64 4, .string ⟨tx.toArray⟩, .int .i64 tv, .int .i64 tl, .int .i64 tc] 83)) W4 :=
           ⟨_, _, rfl, rfl, HN2.out, HU3.out⟩
         rw [← hW4, ← hBp]
         clear hW4 hBp)
      have HR4 := Lib.hid (HR2.out.ext hu4)
      have HX4 := Lib.hid (HX2.out.ext hu4)
      have HU4 := Lib.hid (HU2.out.trans_ext hu4)
      have hz4 := hu4.at HZ2.out (by simp)
      have HNW : Hid (W4.heap[w.heap.size]? = some (.cells #[.int .i64 0, .slice none 0 0, .int .i64 0, .int .i64 0, .int .i64 0, .slice none 0 0] 34 (0, 0))) := Lib.hid hz4
      have q0 := cell_of hn4 0
      simp only [List.getElem?_toArray, List.getElem?_cons_zero] at q0
      obtain ⟨⟨vr, hb4, -, -⟩, -, -⟩ := id HR4.out
      have b2 := cell_of hb4 2
      unfold rdC at b2
      simp only [List.getElem?_toArray, List.getElem?_cons_zero, List.getElem?_cons_succ] at b2
      clear hn4 hu4 hz4 hb4
      go_wp2_with fail
      refine (HC.out W4 HU4.out HX4.out HR4.out).mono ?_
      rintro e w5 ⟨vv, rfl, hn, hR5, hu5, ha⟩
      obtain ⟨oa, na1, na2, na3, sa, ma, qa, la1, la2, la3, rfl⟩ := hn.six
      have hz := hu5.at HNW.out (by have := HpB.out; simp; omega)
      obtain ⟨z0, z1, z2, z3, z4, z5⟩ := cells6 hz
      obtain ⟨y0, y1, y2, y3, y4, y5⟩ := frees6 hz
      have HZ := Lib.hid hz
      have HN5 := Lib.hid hn
      have HR5 := Lib.hid hR5
      have HU5 := Lib.hid (HU4.out.trans_same hu5)
      have HA := Lib.hid ha
      have HS4 := Lib.hid (And.intro (lt_of_heap HNW.out) HU4.out.size)
      clear hn hR5 hu5 ha hz
      go_wp2_with fail
      have hst := nd_store HZ.out (.int .i64 oa) (.slice na1 na2 na3) (.int .i64 sa) (.int .i64 ma) (.int .i64 qa) (.slice la1 la2 la3)
      obtain ⟨q0, q1, q2, q3, q4, q5⟩ := cells6 hst
      exact bodyPost_ret (v := .agg #[.int .i64 oa, .slice na1 na2 na3, .int .i64 sa, .int .i64 ma, .int .i64 qa, .slice la1 la2 la3]) (by simp [results, Tryz.results147, go_sem, q0, q1, q2, q3, q4, q5]) rfl (rdpost_at (Nat.le_refl _) HpB.out HU5.out HR5.out HZ.out HA.out HN5.out (fun b hb _ => by have h1 := HS4.out; unfold New at hb ⊢; omega)))
set_option maxRecDepth 100000 in
set_option maxHeartbeats 12800000 in
theorem operand_none (w : World) (p : Nat) (l : List Tok) (s s' : PS) (n : Nd) (hx : Cx w p l) (h : RdAt w p l s) (tk tv tl tc : Nat) (tx : List UInt8) (HT : Hid (tkAt l s = ⟨tk, tx, tv, tl, tc⟩)) (hd : s.dp ≤ 256) (hk34 : tk = 3 ∨ tk = 4) (HL : Hid (∀ (w : World) (b : Nat), MapL Tryz.prog 9 w b pieceL → (Instr.lookup 193 (.map (some b)) (.string ⟨tx.toArray⟩) true).run Tryz.prog w = .ok (.tuple #[.agg #[.nilFunc], .bool false]) w)) (he : atomP l s = some (n, s')) :
    Calls Tryz.prog 147 #[.pointer (some ⟨p, 0, none⟩)] w (RdPost w p l s n s') := by
  rcases hk34 with h3 | h4
  · subst h3
    have HpB : Hid (p < w.heap.size) := Lib.hid h.lt
    have hu0 : Upto [] w (w.alloc (.cells #[.int .i64 0, .slice none 0 0, .int .i64 0, .int .i64 0, .int .i64 0, .slice none 0 0] 34)) := (Upto.refl [] w).alloc _
    have HR0 := Lib.hid (h.ext hu0)
    have HX0 := Lib.hid (hx.ext hu0)
    have HU0 : Hid (Upto [p] w (w.alloc (.cells #[.int .i64 0, .slice none 0 0, .int .i64 0, .int .i64 0, .int .i64 0, .slice none 0 0] 34))) := Lib.hid (hu0.mono (by simp))
    have HNew : Hid ((w.alloc (.cells #[.int .i64 0, .slice none 0 0, .int .i64 0, .int .i64 0, .int .i64 0, .slice none 0 0] 34)).heap[w.heap.size]? = some (.cells #[.int .i64 0, .slice none 0 0, .int .i64 0, .int .i64 0, .int .i64 0, .slice none 0 0] 34 (0, 0))) := Lib.hid (new_at _ _)
    have HN := Lib.hid (next_calls _ p l s HR0.out)
    clear h hu0
    go_enter Tryz.func147, Tryz.ntmps147
    go_wp2_with fail
    refine HN.out.mono ?_
    rintro e w1 ⟨rfl, hu1⟩
    rw [HT.out]
    unfold tkA
    have HU1 := Lib.hid (HU0.out.trans_ext hu1)
    have HU2 : Hid (Upto [p] w (w1.alloc (.cells #[.int .i64 3, .string ⟨tx.toArray⟩, .int .i64 tv, .int .i64 tl, .int .i64 tc] 83))) := Lib.hid ((HU0.out.trans_ext hu1).alloc _)
    have HZ2 : Hid ((w1.alloc (.cells #[.int .i64 3, .string ⟨tx.toArray⟩, .int .i64 tv, .int .i64 tl, .int .i64 tc] 83)).heap[w.heap.size]? = some (.cells #[.int .i64 0, .slice none 0 0, .int .i64 0, .int .i64 0, .int .i64 0, .slice none 0 0] 34 (0, 0))) := Lib.hid (alloc_old (hu1.at HNew.out (by simp)) _)
    have HTB : Hid ((w1.alloc (.cells #[.int .i64 3, .string ⟨tx.toArray⟩, .int .i64 tv, .int .i64 tl, .int .i64 tc] 83)).heap[w1.heap.size]? = some (.cells #[.int .i64 3, .string ⟨tx.toArray⟩, .int .i64 tv, .int .i64 tl, .int .i64 tc] 83 (0, 0))) := Lib.hid (new_at _ _)
    have HR2 : Hid (RdAt (w1.alloc (.cells #[.int .i64 3, .string ⟨tx.toArray⟩, .int .i64 tv, .int .i64 tl, .int .i64 tc] 83)) p l s) := Lib.hid ((HR0.out.ext hu1).ext ((Upto.refl [] w1).alloc _))
    have HX2 : Hid (Cx (w1.alloc (.cells #[.int .i64 3, .string ⟨tx.toArray⟩, .int .i64 tv, .int .i64 tl, .int .i64 tc] 83)) p l) := Lib.hid (HX0.out.upto ((hu1.mono (by simp)).alloc _))
    have HSZ : Hid (w.heap.size < (w1.alloc (.cells #[.int .i64 3, .string ⟨tx.toArray⟩, .int .i64 tv, .int .i64 tl, .int .i64 tc] 83)).heap.size) := Lib.hid (lt_of_heap HZ2.out)
    clear hu1 HN
    have k3 : ((3 : Int) == 3) = true := rfl
    have x0 := cell_of HTB.out 0
    simp only [List.getElem?_toArray, List.getElem?_cons_zero] at x0
    have xa := cell_of ((Upto.refl [] (w1.alloc (.cells #[.int .i64 3, .string ⟨tx.toArray⟩, .int .i64 tv, .int .i64 tl, .int .i64 tc] 83))).drew.at HTB.out (by simp)) 1
    have xb := cell_of (((Upto.refl [] (w1.alloc (.cells #[.int .i64 3, .string ⟨tx.toArray⟩, .int .i64 tv, .int .i64 tl, .int .i64 tc] 83))).alloc (.cells #[.nilFunc] 191)).drew.at HTB.out (by simp)) 1
    simp only [List.getElem?_toArray, List.getElem?_cons_zero, List.getElem?_cons_succ] at xa xb
    go_wp2_with fail
    go_region_with (
      first
      | (refine (pieces_calls (w1.alloc (.cells #[.int .i64 3, .string ⟨tx.toArray⟩, .int .i64 tv, .int .i64 tl, .int .i64 tc] 83)).drew).mono ?_
         rintro e w3 ⟨b, rfl, hm3, hu3⟩
         have HU3 : Hid (Upto [] (w1.alloc (.cells #[.int .i64 3, .string ⟨tx.toArray⟩, .int .i64 tv, .int .i64 tl, .int .i64 tc] 83)) w3) := Lib.hid ((Upto.refl [] _).drew.trans_ext hu3)
         have l3 := HL.out w3 b hm3
         have l4 := HL.out (w3.alloc (.cells #[.nilFunc] 191)) b (hm3.upto ((Upto.refl [] w3).alloc _) (by simp))
         have xc := cell_of (HU3.out.at HTB.out (by simp)) 1
         have xd := cell_of (((Upto.refl [] w3).alloc (.cells #[.nilFunc] 191)).at (HU3.out.at HTB.out (by simp)) (by simp)) 1
         simp only [List.getElem?_toArray, List.getElem?_cons_zero, List.getElem?_cons_succ] at xc xd
         clear hm3 hu3)
      | (refine (pieces_calls ((w1.alloc (.cells #[.int .i64 3, .string ⟨tx.toArray⟩, .int .i64 tv, .int .i64 tl, .int .i64 tc] 83)).alloc (.cells #[.nilFunc] 191)).drew).mono ?_
         rintro e w3 ⟨b, rfl, hm3, hu3⟩
         have HU3 : Hid (Upto [] (w1.alloc (.cells #[.int .i64 3, .string ⟨tx.toArray⟩, .int .i64 tv, .int .i64 tl, .int .i64 tc] 83)) w3) := Lib.hid (((Upto.refl [] _).alloc _).drew.trans_ext hu3)
         have l3 := HL.out w3 b hm3
         have xc := cell_of (HU3.out.at HTB.out (by simp)) 1
         simp only [List.getElem?_toArray, List.getElem?_cons_zero, List.getElem?_cons_succ] at xc
         have hn2 := hu3.at ((Upto.refl [] ((w1.alloc (.cells #[.int .i64 3, .string ⟨tx.toArray⟩, .int .i64 tv, .int .i64 tl, .int .i64 tc] 83)).alloc (.cells #[.nilFunc] 191))).drew.at (new_at (w1.alloc (.cells #[.int .i64 3, .string ⟨tx.toArray⟩, .int .i64 tv, .int .i64 tl, .int .i64 tc] 83)) (.cells #[.nilFunc] 191)) (by simp)) (by simp)
         (try simp only [World.size_alloc] at hn2)
         have z0 := cell_of hn2 0
         have y0 := free_of hn2 0
         simp only [List.getElem?_toArray, List.getElem?_cons_zero] at z0
         have HN2 := Lib.hid hn2
         clear hm3 hu3 hn2))
    all_goals (
      first
      | (obtain ⟨W4, Bp, hW4, hBp, hn4, hu4⟩ : ∃ W4 Bp, W4 = w3.alloc (.cells #[.nilFunc] 191) ∧ Bp = w3.heap.size ∧ W4.heap[Bp]? = some (.cells #[.nilFunc] 191 (0, 0)) ∧ Upto [] (w1.alloc (.cells #[.int .i64 3, .string ⟨tx.toArray⟩, .int .i64 tv, .int .i64 tl, .int .i64 tc] 83)) W4 :=
           ⟨_, _, rfl, rfl, new_at _ _, HU3.out.alloc _⟩
         rw [← hW4, ← hBp]
         clear hW4 hBp)
      | (obtain ⟨W4, Bp, hW4, hBp, hn4, hu4⟩ : ∃ W4 Bp, W4 = w3.setCell ⟨w1.heap.size + 1, 0, none⟩ (.nilFunc) ∧ Bp = w1.heap.size + 1 ∧ W4.heap[Bp]? = some (.cells #[.nilFunc] 191 (0, 0)) ∧ Upto [] (w1.alloc (.cells #[.int .i64 3, .string ⟨tx.toArray⟩, .int .i64 tv, .int .i64 tl, .int .i64 tc] 83)) W4 :=
           ⟨_, _, rfl, rfl, by have := set_same HN2.out 0 (.nilFunc); simpa using this, HU3.out.setCell (Or.inr (by simp)) _⟩
         rw [← hW4, ← hBp]
         clear hW4 hBp)
      | (obtain ⟨W4, Bp, hW4, hBp, hn4, hu4⟩ : ∃ W4 Bp, W4 = w3 ∧ Bp = w1.heap.size + 1 ∧ W4.heap[Bp]? = some (.cells #[.nilFunc] 191 (0, 0)) ∧ Upto [] (w1.alloc (.cells #[.int .i64 3, .string ⟨tx.toArray⟩, .int .i64 tv, .int .i64 tl, .int .i64 tc] 83)) W4 :=
           ⟨_, _, rfl, rfl, HN2.out, HU3.out⟩
         rw [← hW4, ← hBp]
         clear hW4 hBp)
      have HR4 := Lib.hid (HR2.out.ext hu4)
      have HX4 := Lib.hid (HX2.out.ext hu4)
      have HU4 := Lib.hid (HU2.out.trans_ext hu4)
      have hz4 := hu4.at HZ2.out (by simp)
      have HNW : Hid (W4.heap[w.heap.size]? = some (.cells #[.int .i64 0, .slice none 0 0, .int .i64 0, .int .i64 0, .int .i64 0, .slice none 0 0] 34 (0, 0))) := Lib.hid hz4
      have q0 := cell_of hn4 0
      simp only [List.getElem?_toArray, List.getElem?_cons_zero] at q0
      obtain ⟨⟨vr, hb4, -, -⟩, -, -⟩ := id HR4.out
      have b2 := cell_of hb4 2
      unfold rdC at b2
      simp only [List.getElem?_toArray, List.getElem?_cons_zero, List.getElem?_cons_succ] at b2
      clear hn4 hu4 hz4 hb4
      go_wp2_with fail
      refine (atom_calls W4 p l s s' n HX4.out HR4.out hd he).mono ?_
      rintro e w5 ⟨vv, rfl, hn, hR5, hu5, ha⟩
      obtain ⟨oa, na1, na2, na3, sa, ma, qa, la1, la2, la3, rfl⟩ := hn.six
      have hz := hu5.at HNW.out (by have := HpB.out; simp; omega)
      obtain ⟨z0, z1, z2, z3, z4, z5⟩ := cells6 hz
      obtain ⟨y0, y1, y2, y3, y4, y5⟩ := frees6 hz
      have HZ := Lib.hid hz
      have HN5 := Lib.hid hn
      have HR5 := Lib.hid hR5
      have HU5 := Lib.hid (HU4.out.trans_same hu5)
      have HA := Lib.hid ha
      have HS4 := Lib.hid (And.intro (lt_of_heap HNW.out) HU4.out.size)
      clear hn hR5 hu5 ha hz
      go_wp2_with fail
      have hst := nd_store HZ.out (.int .i64 oa) (.slice na1 na2 na3) (.int .i64 sa) (.int .i64 ma) (.int .i64 qa) (.slice la1 la2 la3)
      obtain ⟨q0, q1, q2, q3, q4, q5⟩ := cells6 hst
      exact bodyPost_ret (v := .agg #[.int .i64 oa, .slice na1 na2 na3, .int .i64 sa, .int .i64 ma, .int .i64 qa, .slice la1 la2 la3]) (by simp [results, Tryz.results147, go_sem, q0, q1, q2, q3, q4, q5]) rfl (rdpost_at (Nat.le_refl _) HpB.out HU5.out HR5.out HZ.out HA.out HN5.out (fun b hb _ => by have h1 := HS4.out; unfold New at hb ⊢; omega)))
  · subst h4
    have HpB : Hid (p < w.heap.size) := Lib.hid h.lt
    have hu0 : Upto [] w (w.alloc (.cells #[.int .i64 0, .slice none 0 0, .int .i64 0, .int .i64 0, .int .i64 0, .slice none 0 0] 34)) := (Upto.refl [] w).alloc _
    have HR0 := Lib.hid (h.ext hu0)
    have HX0 := Lib.hid (hx.ext hu0)
    have HU0 : Hid (Upto [p] w (w.alloc (.cells #[.int .i64 0, .slice none 0 0, .int .i64 0, .int .i64 0, .int .i64 0, .slice none 0 0] 34))) := Lib.hid (hu0.mono (by simp))
    have HNew : Hid ((w.alloc (.cells #[.int .i64 0, .slice none 0 0, .int .i64 0, .int .i64 0, .int .i64 0, .slice none 0 0] 34)).heap[w.heap.size]? = some (.cells #[.int .i64 0, .slice none 0 0, .int .i64 0, .int .i64 0, .int .i64 0, .slice none 0 0] 34 (0, 0))) := Lib.hid (new_at _ _)
    have HN := Lib.hid (next_calls _ p l s HR0.out)
    clear h hu0
    go_enter Tryz.func147, Tryz.ntmps147
    go_wp2_with fail
    refine HN.out.mono ?_
    rintro e w1 ⟨rfl, hu1⟩
    rw [HT.out]
    unfold tkA
    have HU1 := Lib.hid (HU0.out.trans_ext hu1)
    have HU2 : Hid (Upto [p] w (w1.alloc (.cells #[.int .i64 4, .string ⟨tx.toArray⟩, .int .i64 tv, .int .i64 tl, .int .i64 tc] 83))) := Lib.hid ((HU0.out.trans_ext hu1).alloc _)
    have HZ2 : Hid ((w1.alloc (.cells #[.int .i64 4, .string ⟨tx.toArray⟩, .int .i64 tv, .int .i64 tl, .int .i64 tc] 83)).heap[w.heap.size]? = some (.cells #[.int .i64 0, .slice none 0 0, .int .i64 0, .int .i64 0, .int .i64 0, .slice none 0 0] 34 (0, 0))) := Lib.hid (alloc_old (hu1.at HNew.out (by simp)) _)
    have HTB : Hid ((w1.alloc (.cells #[.int .i64 4, .string ⟨tx.toArray⟩, .int .i64 tv, .int .i64 tl, .int .i64 tc] 83)).heap[w1.heap.size]? = some (.cells #[.int .i64 4, .string ⟨tx.toArray⟩, .int .i64 tv, .int .i64 tl, .int .i64 tc] 83 (0, 0))) := Lib.hid (new_at _ _)
    have HR2 : Hid (RdAt (w1.alloc (.cells #[.int .i64 4, .string ⟨tx.toArray⟩, .int .i64 tv, .int .i64 tl, .int .i64 tc] 83)) p l s) := Lib.hid ((HR0.out.ext hu1).ext ((Upto.refl [] w1).alloc _))
    have HX2 : Hid (Cx (w1.alloc (.cells #[.int .i64 4, .string ⟨tx.toArray⟩, .int .i64 tv, .int .i64 tl, .int .i64 tc] 83)) p l) := Lib.hid (HX0.out.upto ((hu1.mono (by simp)).alloc _))
    have HSZ : Hid (w.heap.size < (w1.alloc (.cells #[.int .i64 4, .string ⟨tx.toArray⟩, .int .i64 tv, .int .i64 tl, .int .i64 tc] 83)).heap.size) := Lib.hid (lt_of_heap HZ2.out)
    clear hu1 HN
    have k3 : ((4 : Int) == 3) = false := rfl
    have k4 : ((4 : Int) == 4) = true := rfl
    have x0 := cell_of HTB.out 0
    simp only [List.getElem?_toArray, List.getElem?_cons_zero] at x0
    have xa := cell_of ((Upto.refl [] (w1.alloc (.cells #[.int .i64 4, .string ⟨tx.toArray⟩, .int .i64 tv, .int .i64 tl, .int .i64 tc] 83))).drew.at HTB.out (by simp)) 1
    have xb := cell_of (((Upto.refl [] (w1.alloc (.cells #[.int .i64 4, .string ⟨tx.toArray⟩, .int .i64 tv, .int .i64 tl, .int .i64 tc] 83))).alloc (.cells #[.nilFunc] 191)).drew.at HTB.out (by simp)) 1
    simp only [List.getElem?_toArray, List.getElem?_cons_zero, List.getElem?_cons_succ] at xa xb
    go_wp2_with fail
    go_region_with (
      first
      | (refine (pieces_calls (w1.alloc (.cells #[.int .i64 4, .string ⟨tx.toArray⟩, .int .i64 tv, .int .i64 tl, .int .i64 tc] 83)).drew).mono ?_
         rintro e w3 ⟨b, rfl, hm3, hu3⟩
         have HU3 : Hid (Upto [] (w1.alloc (.cells #[.int .i64 4, .string ⟨tx.toArray⟩, .int .i64 tv, .int .i64 tl, .int .i64 tc] 83)) w3) := Lib.hid ((Upto.refl [] _).drew.trans_ext hu3)
         have l3 := HL.out w3 b hm3
         have l4 := HL.out (w3.alloc (.cells #[.nilFunc] 191)) b (hm3.upto ((Upto.refl [] w3).alloc _) (by simp))
         have xc := cell_of (HU3.out.at HTB.out (by simp)) 1
         have xd := cell_of (((Upto.refl [] w3).alloc (.cells #[.nilFunc] 191)).at (HU3.out.at HTB.out (by simp)) (by simp)) 1
         simp only [List.getElem?_toArray, List.getElem?_cons_zero, List.getElem?_cons_succ] at xc xd
         clear hm3 hu3)
      | (refine (pieces_calls ((w1.alloc (.cells #[.int .i64 4, .string ⟨tx.toArray⟩, .int .i64 tv, .int .i64 tl, .int .i64 tc] 83)).alloc (.cells #[.nilFunc] 191)).drew).mono ?_
         rintro e w3 ⟨b, rfl, hm3, hu3⟩
         have HU3 : Hid (Upto [] (w1.alloc (.cells #[.int .i64 4, .string ⟨tx.toArray⟩, .int .i64 tv, .int .i64 tl, .int .i64 tc] 83)) w3) := Lib.hid (((Upto.refl [] _).alloc _).drew.trans_ext hu3)
         have l3 := HL.out w3 b hm3
         have xc := cell_of (HU3.out.at HTB.out (by simp)) 1
         simp only [List.getElem?_toArray, List.getElem?_cons_zero, List.getElem?_cons_succ] at xc
         have hn2 := hu3.at ((Upto.refl [] ((w1.alloc (.cells #[.int .i64 4, .string ⟨tx.toArray⟩, .int .i64 tv, .int .i64 tl, .int .i64 tc] 83)).alloc (.cells #[.nilFunc] 191))).drew.at (new_at (w1.alloc (.cells #[.int .i64 4, .string ⟨tx.toArray⟩, .int .i64 tv, .int .i64 tl, .int .i64 tc] 83)) (.cells #[.nilFunc] 191)) (by simp)) (by simp)
         (try simp only [World.size_alloc] at hn2)
         have z0 := cell_of hn2 0
         have y0 := free_of hn2 0
         simp only [List.getElem?_toArray, List.getElem?_cons_zero] at z0
         have HN2 := Lib.hid hn2
         clear hm3 hu3 hn2))
    all_goals (
      first
      | (obtain ⟨W4, Bp, hW4, hBp, hn4, hu4⟩ : ∃ W4 Bp, W4 = w3.alloc (.cells #[.nilFunc] 191) ∧ Bp = w3.heap.size ∧ W4.heap[Bp]? = some (.cells #[.nilFunc] 191 (0, 0)) ∧ Upto [] (w1.alloc (.cells #[.int .i64 4, .string ⟨tx.toArray⟩, .int .i64 tv, .int .i64 tl, .int .i64 tc] 83)) W4 :=
           ⟨_, _, rfl, rfl, new_at _ _, HU3.out.alloc _⟩
         rw [← hW4, ← hBp]
         clear hW4 hBp)
      | (obtain ⟨W4, Bp, hW4, hBp, hn4, hu4⟩ : ∃ W4 Bp, W4 = w3.setCell ⟨w1.heap.size + 1, 0, none⟩ (.nilFunc) ∧ Bp = w1.heap.size + 1 ∧ W4.heap[Bp]? = some (.cells #[.nilFunc] 191 (0, 0)) ∧ Upto [] (w1.alloc (.cells #[.int .i64 4, .string ⟨tx.toArray⟩, .int .i64 tv, .int .i64 tl, .int .i64 tc] 83)) W4 :=
           ⟨_, _, rfl, rfl, by have := set_same HN2.out 0 (.nilFunc); simpa using this, HU3.out.setCell (Or.inr (by simp)) _⟩
         rw [← hW4, ← hBp]
         clear hW4 hBp)
      | (obtain ⟨W4, Bp, hW4, hBp, hn4, hu4⟩ : ∃ W4 Bp, W4 = w3 ∧ Bp = w1.heap.size + 1 ∧ W4.heap[Bp]? = some (.cells #[.nilFunc] 191 (0, 0)) ∧ Upto [] (w1.alloc (.cells #[.int .i64 4, .string ⟨tx.toArray⟩, .int .i64 tv, .int .i64 tl, .int .i64 tc] 83)) W4 :=
           ⟨_, _, rfl, rfl, HN2.out, HU3.out⟩
         rw [← hW4, ← hBp]
         clear hW4 hBp)
      have HR4 := Lib.hid (HR2.out.ext hu4)
      have HX4 := Lib.hid (HX2.out.ext hu4)
      have HU4 := Lib.hid (HU2.out.trans_ext hu4)
      have hz4 := hu4.at HZ2.out (by simp)
      have HNW : Hid (W4.heap[w.heap.size]? = some (.cells #[.int .i64 0, .slice none 0 0, .int .i64 0, .int .i64 0, .int .i64 0, .slice none 0 0] 34 (0, 0))) := Lib.hid hz4
      have q0 := cell_of hn4 0
      simp only [List.getElem?_toArray, List.getElem?_cons_zero] at q0
      obtain ⟨⟨vr, hb4, -, -⟩, -, -⟩ := id HR4.out
      have b2 := cell_of hb4 2
      unfold rdC at b2
      simp only [List.getElem?_toArray, List.getElem?_cons_zero, List.getElem?_cons_succ] at b2
      clear hn4 hu4 hz4 hb4
      go_wp2_with fail
      refine (atom_calls W4 p l s s' n HX4.out HR4.out hd he).mono ?_
      rintro e w5 ⟨vv, rfl, hn, hR5, hu5, ha⟩
      obtain ⟨oa, na1, na2, na3, sa, ma, qa, la1, la2, la3, rfl⟩ := hn.six
      have hz := hu5.at HNW.out (by have := HpB.out; simp; omega)
      obtain ⟨z0, z1, z2, z3, z4, z5⟩ := cells6 hz
      obtain ⟨y0, y1, y2, y3, y4, y5⟩ := frees6 hz
      have HZ := Lib.hid hz
      have HN5 := Lib.hid hn
      have HR5 := Lib.hid hR5
      have HU5 := Lib.hid (HU4.out.trans_same hu5)
      have HA := Lib.hid ha
      have HS4 := Lib.hid (And.intro (lt_of_heap HNW.out) HU4.out.size)
      clear hn hR5 hu5 ha hz
      go_wp2_with fail
      have hst := nd_store HZ.out (.int .i64 oa) (.slice na1 na2 na3) (.int .i64 sa) (.int .i64 ma) (.int .i64 qa) (.slice la1 la2 la3)
      obtain ⟨q0, q1, q2, q3, q4, q5⟩ := cells6 hst
      exact bodyPost_ret (v := .agg #[.int .i64 oa, .slice na1 na2 na3, .int .i64 sa, .int .i64 ma, .int .i64 qa, .slice la1 la2 la3]) (by simp [results, Tryz.results147, go_sem, q0, q1, q2, q3, q4, q5]) rfl (rdpost_at (Nat.le_refl _) HpB.out HU5.out HR5.out HZ.out HA.out HN5.out (fun b hb _ => by have h1 := HS4.out; unfold New at hb ⊢; omega)))
set_option maxRecDepth 100000 in
set_option maxHeartbeats 12800000 in
theorem operand_err (w : World) (p : Nat) (l : List Tok) (s s' : PS) (n : Nd) (k : FuncId) (hx : Cx w p l) (h : RdAt w p l s) (tk tv tl tc : Nat) (tx : List UInt8) (HT : Hid (tkAt l s = ⟨tk, tx, tv, tl, tc⟩)) (hd : s.dp ≤ 256) (hk34 : tk = 3 ∨ tk = 4) (h0 : s.er ≠ 0) (HL : Hid (∀ (w : World) (b : Nat), MapL Tryz.prog 9 w b pieceL → (Instr.lookup 193 (.map (some b)) (.string ⟨tx.toArray⟩) true).run Tryz.prog w = .ok (.tuple #[.agg #[.func (.func k) #[] #[]], .bool true]) w)) (he : atomP l s = some (n, s')) :
    Calls Tryz.prog 147 #[.pointer (some ⟨p, 0, none⟩)] w (RdPost w p l s n s') := by
  have k0 : ((s.er : Int) == 0) = false := by rw [beq_eq_false_iff_ne]; omega
  clear h0
  rcases hk34 with h3 | h4
  · subst h3
    have HpB : Hid (p < w.heap.size) := Lib.hid h.lt
    have hu0 : Upto [] w (w.alloc (.cells #[.int .i64 0, .slice none 0 0, .int .i64 0, .int .i64 0, .int .i64 0, .slice none 0 0] 34)) := (Upto.refl [] w).alloc _
    have HR0 := Lib.hid (h.ext hu0)
    have HX0 := Lib.hid (hx.ext hu0)
    have HU0 : Hid (Upto [p] w (w.alloc (.cells #[.int .i64 0, .slice none 0 0, .int .i64 0, .int .i64 0, .int .i64 0, .slice none 0 0] 34))) := Lib.hid (hu0.mono (by simp))
    have HNew : Hid ((w.alloc (.cells #[.int .i64 0, .slice none 0 0, .int .i64 0, .int .i64 0, .int .i64 0, .slice none 0 0] 34)).heap[w.heap.size]? = some (.cells #[.int .i64 0, .slice none 0 0, .int .i64 0, .int .i64 0, .int .i64 0, .slice none 0 0] 34 (0, 0))) := Lib.hid (new_at _ _)
    have HN := Lib.hid (next_calls _ p l s HR0.out)
    clear h hu0
    go_enter Tryz.func147, Tryz.ntmps147
    go_wp2_with fail
    refine HN.out.mono ?_
    rintro e w1 ⟨rfl, hu1⟩
    rw [HT.out]
    unfold tkA
    have HU1 := Lib.hid (HU0.out.trans_ext hu1)
    have HU2 : Hid (Upto [p] w (w1.alloc (.cells #[.int .i64 3, .string ⟨tx.toArray⟩, .int .i64 tv, .int .i64 tl, .int .i64 tc] 83))) := Lib.hid ((HU0.out.trans_ext hu1).alloc _)
    have HZ2 : Hid ((w1.alloc (.cells #[.int .i64 3, .string ⟨tx.toArray⟩, .int .i64 tv, .int .i64 tl, .int .i64 tc] 83)).heap[w.heap.size]? = some (.cells #[.int .i64 0, .slice none 0 0, .int .i64 0, .int .i64 0, .int .i64 0, .slice none 0 0] 34 (0, 0))) := Lib.hid (alloc_old (hu1.at HNew.out (by simp)) _)
    have HTB : Hid ((w1.alloc (.cells #[.int .i64 3, .string ⟨tx.toArray⟩, .int .i64 tv, .int .i64 tl, .int .i64 tc] 83)).heap[w1.heap.size]? = some (.cells #[.int .i64 3, .string ⟨tx.toArray⟩, .int .i64 tv, .int .i64 tl, .int .i64 tc] 83 (0, 0))) := Lib.hid (new_at _ _)
    have HR2 : Hid (RdAt (w1.alloc (.cells #[.int .i64 3, .string ⟨tx.toArray⟩, .int .i64 tv, .int .i64 tl, .int .i64 tc] 83)) p l s) := Lib.hid ((HR0.out.ext hu1).ext ((Upto.refl [] w1).alloc _))
    have HX2 : Hid (Cx (w1.alloc (.cells #[.int .i64 3, .string ⟨tx.toArray⟩, .int .i64 tv, .int .i64 tl, .int .i64 tc] 83)) p l) := Lib.hid (HX0.out.upto ((hu1.mono (by simp)).alloc _))
    have HSZ : Hid (w.heap.size < (w1.alloc (.cells #[.int .i64 3, .string ⟨tx.toArray⟩, .int .i64 tv, .int .i64 tl, .int .i64 tc] 83)).heap.size) := Lib.hid (lt_of_heap HZ2.out)
    clear hu1 HN
    have k3 : ((3 : Int) == 3) = true := rfl
    have x0 := cell_of HTB.out 0
    simp only [List.getElem?_toArray, List.getElem?_cons_zero] at x0
    have xa := cell_of ((Upto.refl [] (w1.alloc (.cells #[.int .i64 3, .string ⟨tx.toArray⟩, .int .i64 tv, .int .i64 tl, .int .i64 tc] 83))).drew.at HTB.out (by simp)) 1
    have xb := cell_of (((Upto.refl [] (w1.alloc (.cells #[.int .i64 3, .string ⟨tx.toArray⟩, .int .i64 tv, .int .i64 tl, .int .i64 tc] 83))).alloc (.cells #[.nilFunc] 191)).drew.at HTB.out (by simp)) 1
    simp only [List.getElem?_toArray, List.getElem?_cons_zero, List.getElem?_cons_succ] at xa xb
    go_wp2_with fail
    go_region_with (
      first
      | (refine (pieces_calls (w1.alloc (.cells #[.int .i64 3, .string ⟨tx.toArray⟩, .int .i64 tv, .int .i64 tl, .int .i64 tc] 83)).drew).mono ?_
         rintro e w3 ⟨b, rfl, hm3, hu3⟩
         have HU3 : Hid (Upto [] (w1.alloc (.cells #[.int .i64 3, .string ⟨tx.toArray⟩, .int .i64 tv, .int .i64 tl, .int .i64 tc] 83)) w3) := Lib.hid ((Upto.refl [] _).drew.trans_ext hu3)
         have l3 := HL.out w3 b hm3
         have l4 := HL.out (w3.alloc (.cells #[.nilFunc] 191)) b (hm3.upto ((Upto.refl [] w3).alloc _) (by simp))
         have xc := cell_of (HU3.out.at HTB.out (by simp)) 1
         have xd := cell_of (((Upto.refl [] w3).alloc (.cells #[.nilFunc] 191)).at (HU3.out.at HTB.out (by simp)) (by simp)) 1
         simp only [List.getElem?_toArray, List.getElem?_cons_zero, List.getElem?_cons_succ] at xc xd
         clear hm3 hu3)
      | (refine (pieces_calls ((w1.alloc (.cells #[.int .i64 3, .string ⟨tx.toArray⟩, .int .i64 tv, .int .i64 tl, .int .i64 tc] 83)).alloc (.cells #[.nilFunc] 191)).drew).mono ?_
         rintro e w3 ⟨b, rfl, hm3, hu3⟩
         have HU3 : Hid (Upto [] (w1.alloc (.cells #[.int .i64 3, .string ⟨tx.toArray⟩, .int .i64 tv, .int .i64 tl, .int .i64 tc] 83)) w3) := Lib.hid (((Upto.refl [] _).alloc _).drew.trans_ext hu3)
         have l3 := HL.out w3 b hm3
         have xc := cell_of (HU3.out.at HTB.out (by simp)) 1
         simp only [List.getElem?_toArray, List.getElem?_cons_zero, List.getElem?_cons_succ] at xc
         have hn2 := hu3.at ((Upto.refl [] ((w1.alloc (.cells #[.int .i64 3, .string ⟨tx.toArray⟩, .int .i64 tv, .int .i64 tl, .int .i64 tc] 83)).alloc (.cells #[.nilFunc] 191))).drew.at (new_at (w1.alloc (.cells #[.int .i64 3, .string ⟨tx.toArray⟩, .int .i64 tv, .int .i64 tl, .int .i64 tc] 83)) (.cells #[.nilFunc] 191)) (by simp)) (by simp)
         (try simp only [World.size_alloc] at hn2)
         have z0 := cell_of hn2 0
         have y0 := free_of hn2 0
         simp only [List.getElem?_toArray, List.getElem?_cons_zero] at z0
         have HN2 := Lib.hid hn2
         clear hm3 hu3 hn2))
    all_goals (
      first
      | (obtain ⟨W4, Bp, hW4, hBp, hn4, hu4⟩ : ∃ W4 Bp, W4 = w3.alloc (.cells #[.func (.func k) #[] #[]] 191) ∧ Bp = w3.heap.size ∧ W4.heap[Bp]? = some (.cells #[.func (.func k) #[] #[]] 191 (0, 0)) ∧ Upto [] (w1.alloc (.cells #[.int .i64 3, .string ⟨tx.toArray⟩, .int .i64 tv, .int .i64 tl, .int .i64 tc] 83)) W4 :=
           ⟨_, _, rfl, rfl, new_at _ _, HU3.out.alloc _⟩
         rw [← hW4, ← hBp]
         clear hW4 hBp)
      | (obtain ⟨W4, Bp, hW4, hBp, hn4, hu4⟩ : ∃ W4 Bp, W4 = w3.setCell ⟨w1.heap.size + 1, 0, none⟩ (.func (.func k) #[] #[]) ∧ Bp = w1.heap.size + 1 ∧ W4.heap[Bp]? = some (.cells #[.func (.func k) #[] #[]] 191 (0, 0)) ∧ Upto [] (w1.alloc (.cells #[.int .i64 3, .string ⟨tx.toArray⟩, .int .i64 tv, .int .i64 tl, .int .i64 tc] 83)) W4 :=
           ⟨_, _, rfl, rfl, by have := set_same HN2.out 0 (.func (.func k) #[] #[]); simpa using this, HU3.out.setCell (Or.inr (by simp)) _⟩
         rw [← hW4, ← hBp]
         clear hW4 hBp)
      | (obtain ⟨W4, Bp, hW4, hBp, hn4, hu4⟩ : ∃ W4 Bp, W4 = w3 ∧ Bp = w1.heap.size + 1 ∧ W4.heap[Bp]? = some (.cells #[.func (.func k) #[] #[]] 191 (0, 0)) ∧ Upto [] (w1.alloc (.cells #[.int .i64 3, .string ⟨tx.toArray⟩, .int .i64 tv, .int .i64 tl, .int .i64 tc] 83)) W4 :=
           ⟨_, _, rfl, rfl, HN2.out, HU3.out⟩
         rw [← hW4, ← hBp]
         clear hW4 hBp)
      have HR4 := Lib.hid (HR2.out.ext hu4)
      have HX4 := Lib.hid (HX2.out.ext hu4)
      have HU4 := Lib.hid (HU2.out.trans_ext hu4)
      have hz4 := hu4.at HZ2.out (by simp)
      have HNW : Hid (W4.heap[w.heap.size]? = some (.cells #[.int .i64 0, .slice none 0 0, .int .i64 0, .int .i64 0, .int .i64 0, .slice none 0 0] 34 (0, 0))) := Lib.hid hz4
      have q0 := cell_of hn4 0
      simp only [List.getElem?_toArray, List.getElem?_cons_zero] at q0
      obtain ⟨⟨vr, hb4, -, -⟩, -, -⟩ := id HR4.out
      have b2 := cell_of hb4 2
      unfold rdC at b2
      simp only [List.getElem?_toArray, List.getElem?_cons_zero, List.getElem?_cons_succ] at b2
      clear hn4 hu4 hz4 hb4
      go_wp2_with fail
      refine (atom_calls W4 p l s s' n HX4.out HR4.out hd he).mono ?_
      rintro e w5 ⟨vv, rfl, hn, hR5, hu5, ha⟩
      obtain ⟨oa, na1, na2, na3, sa, ma, qa, la1, la2, la3, rfl⟩ := hn.six
      have hz := hu5.at HNW.out (by have := HpB.out; simp; omega)
      obtain ⟨z0, z1, z2, z3, z4, z5⟩ := cells6 hz
      obtain ⟨y0, y1, y2, y3, y4, y5⟩ := frees6 hz
      have HZ := Lib.hid hz
      have HN5 := Lib.hid hn
      have HR5 := Lib.hid hR5
      have HU5 := Lib.hid (HU4.out.trans_same hu5)
      have HA := Lib.hid ha
      have HS4 := Lib.hid (And.intro (lt_of_heap HNW.out) HU4.out.size)
      clear hn hR5 hu5 ha hz
      go_wp2_with fail
      have hst := nd_store HZ.out (.int .i64 oa) (.slice na1 na2 na3) (.int .i64 sa) (.int .i64 ma) (.int .i64 qa) (.slice la1 la2 la3)
      obtain ⟨q0, q1, q2, q3, q4, q5⟩ := cells6 hst
      exact bodyPost_ret (v := .agg #[.int .i64 oa, .slice na1 na2 na3, .int .i64 sa, .int .i64 ma, .int .i64 qa, .slice la1 la2 la3]) (by simp [results, Tryz.results147, go_sem, q0, q1, q2, q3, q4, q5]) rfl (rdpost_at (Nat.le_refl _) HpB.out HU5.out HR5.out HZ.out HA.out HN5.out (fun b hb _ => by have h1 := HS4.out; unfold New at hb ⊢; omega)))
  · subst h4
    have HpB : Hid (p < w.heap.size) := Lib.hid h.lt
    have hu0 : Upto [] w (w.alloc (.cells #[.int .i64 0, .slice none 0 0, .int .i64 0, .int .i64 0, .int .i64 0, .slice none 0 0] 34)) := (Upto.refl [] w).alloc _
    have HR0 := Lib.hid (h.ext hu0)
    have HX0 := Lib.hid (hx.ext hu0)
    have HU0 : Hid (Upto [p] w (w.alloc (.cells #[.int .i64 0, .slice none 0 0, .int .i64 0, .int .i64 0, .int .i64 0, .slice none 0 0] 34))) := Lib.hid (hu0.mono (by simp))
    have HNew : Hid ((w.alloc (.cells #[.int .i64 0, .slice none 0 0, .int .i64 0, .int .i64 0, .int .i64 0, .slice none 0 0] 34)).heap[w.heap.size]? = some (.cells #[.int .i64 0, .slice none 0 0, .int .i64 0, .int .i64 0, .int .i64 0, .slice none 0 0] 34 (0, 0))) := Lib.hid (new_at _ _)
    have HN := Lib.hid (next_calls _ p l s HR0.out)
    clear h hu0
    go_enter Tryz.func147, Tryz.ntmps147
    go_wp2_with fail
    refine HN.out.mono ?_
    rintro e w1 ⟨rfl, hu1⟩
    rw [HT.out]
    unfold tkA
    have HU1 := Lib.hid (HU0.out.trans_ext hu1)
    have HU2 : Hid (Upto [p] w (w1.alloc (.cells #[.int .i64 4, .string ⟨tx.toArray⟩, .int .i64 tv, .int .i64 tl, .int .i64 tc] 83))) := Lib.hid ((HU0.out.trans_ext hu1).alloc _)
    have HZ2 : Hid ((w1.alloc (.cells #[.int .i64 4, .string ⟨tx.toArray⟩, .int .i64 tv, .int .i64 tl, .int .i64 tc] 83)).heap[w.heap.size]? = some (.cells #[.int .i64 0, .slice none 0 0, .int .i64 0, .int .i64 0, .int .i64 0, .slice none 0 0] 34 (0, 0))) := Lib.hid (alloc_old (hu1.at HNew.out (by simp)) _)
    have HTB : Hid ((w1.alloc (.cells #[.int .i64 4, .string ⟨tx.toArray⟩, .int .i64 tv, .int .i64 tl, .int .i64 tc] 83)).heap[w1.heap.size]? = some (.cells #[.int .i64 4, .string ⟨tx.toArray⟩, .int .i64 tv, .int .i64 tl, .int .i64 tc] 83 (0, 0))) := Lib.hid (new_at _ _)
    have HR2 : Hid (RdAt (w1.alloc (.cells #[.int .i64 4, .string ⟨tx.toArray⟩, .int .i64 tv, .int .i64 tl, .int .i64 tc] 83)) p l s) := Lib.hid ((HR0.out.ext hu1).ext ((Upto.refl [] w1).alloc _))
    have HX2 : Hid (Cx (w1.alloc (.cells #[.int .i64 4, .string ⟨tx.toArray⟩, .int .i64 tv, .int .i64 tl, .int .i64 tc] 83)) p l) := Lib.hid (HX0.out.upto ((hu1.mono (by simp)).alloc _))
    have HSZ : Hid (w.heap.size < (w1.alloc (.cells #[.int .i64 4, .string ⟨tx.toArray⟩, .int .i64 tv, .int .i64 tl, .int .i64 tc] 83)).heap.size) := Lib.hid (lt_of_heap HZ2.out)
    clear hu1 HN
    have k3 : ((4 : Int) == 3) = false := rfl
    have k4 : ((4 : Int) == 4) = true := rfl
    have x0 := cell_of HTB.out 0
    simp only [List.getElem?_toArray, List.getElem?_cons_zero] at x0
    have xa := cell_of ((Upto.refl [] (w1.alloc (.cells #[.int .i64 4, .string ⟨tx.toArray⟩, .int .i64 tv, .int .i64 tl, .int .i64 tc] 83))).drew.at HTB.out (by simp)) 1
    have xb := cell_of (((Upto.refl [] (w1.alloc (.cells #[.int .i64 4, .string ⟨tx.toArray⟩, .int .i64 tv, .int .i64 tl, .int .i64 tc] 83))).alloc (.cells #[.nilFunc] 191)).drew.at HTB.out (by simp)) 1
    simp only [List.getElem?_toArray, List.getElem?_cons_zero, List.getElem?_cons_succ] at xa xb
    go_wp2_with fail
    go_region_with (
      first
      | (refine (pieces_calls (w1.alloc (.cells #[.int .i64 4, .string ⟨tx.toArray⟩, .int .i64 tv, .int .i64 tl, .int .i64 tc] 83)).drew).mono ?_
         rintro e w3 ⟨b, rfl, hm3, hu3⟩
         have HU3 : Hid (Upto [] (w1.alloc (.cells #[.int .i64 4, .string ⟨tx.toArray⟩, .int .i64 tv, .int .i64 tl, .int .i64 tc] 83)) w3) := Lib.hid ((Upto.refl [] _).drew.trans_ext hu3)
         have l3 := HL.out w3 b hm3
         have l4 := HL.out (w3.alloc (.cells #[.nilFunc] 191)) b (hm3.upto ((Upto.refl [] w3).alloc _) (by simp))
         have xc := cell_of (HU3.out.at HTB.out (by simp)) 1
         have xd := cell_of (((Upto.refl [] w3).alloc (.cells #[.nilFunc] 191)).at (HU3.out.at HTB.out (by simp)) (by simp)) 1
         simp only [List.getElem?_toArray, List.getElem?_cons_zero, List.getElem?_cons_succ] at xc xd
         clear hm3 hu3)
      | (refine (pieces_calls ((w1.alloc (.cells #[.int .i64 4, .string ⟨tx.toArray⟩, .int .i64 tv, .int .i64 tl, .int .i64 tc] 83)).alloc (.cells #[.nilFunc] 191)).drew).mono ?_
         rintro e w3 ⟨b, rfl, hm3, hu3⟩
         have HU3 : Hid (Upto [] (w1.alloc (.cells #[.int .i64 4, .string ⟨tx.toArray⟩, .int .i64 tv, .int .i64 tl, .int .i64 tc] 83)) w3) := Lib.hid (((Upto.refl [] _).alloc _).drew.trans_ext hu3)
         have l3 := HL.out w3 b hm3
         have xc := cell_of (HU3.out.at HTB.out (by simp)) 1
         simp only [List.getElem?_toArray, List.getElem?_cons_zero, List.getElem?_cons_succ] at xc
         have hn2 := hu3.at ((Upto.refl [] ((w1.alloc (.cells #[.int .i64 4, .string ⟨tx.toArray⟩, .int .i64 tv, .int .i64 tl, .int .i64 tc] 83)).alloc (.cells #[.nilFunc] 191))).drew.at (new_at (w1.alloc (.cells #[.int .i64 4, .string ⟨tx.toArray⟩, .int .i64 tv, .int .i64 tl, .int .i64 tc] 83)) (.cells #[.nilFunc] 191)) (by simp)) (by simp)
         (try simp only [World.size_alloc] at hn2)
         have z0 := cell_of hn2 0
         have y0 := free_of hn2 0
         simp only [List.getElem?_toArray, List.getElem?_cons_zero] at z0
         have HN2 := Lib.hid hn2
         clear hm3 hu3 hn2))
    all_goals (
      first
      | (obtain ⟨W4, Bp, hW4, hBp, hn4, hu4⟩ : ∃ W4 Bp, W4 = w3.alloc (.cells #[.func (.func k) #[] #[]] 191) ∧ Bp = w3.heap.size ∧ W4.heap[Bp]? = some (.cells #[.func (.func k) #[] #[]] 191 (0, 0)) ∧ Upto [] (w1.alloc (.cells #[.int .i64 4, .string ⟨tx.toArray⟩, .int .i64 tv, .int .i64 tl, .int .i64 tc] 83)) W4 :=
           ⟨_, _, rfl, rfl, new_at _ _, HU3.out.alloc _⟩
         rw [← hW4, ← hBp]
         clear hW4 hBp)
      | (obtain ⟨W4, Bp, hW4, hBp, hn4, hu4⟩ : ∃ W4 Bp, W4 = w3.setCell ⟨w1.heap.size + 1, 0, none⟩ (.func (.func k) #[] #[]) ∧ Bp = w1.heap.size + 1 ∧ W4.heap[Bp]? = some (.cells #[.func (.func k) #[] #[]] 191 (0, 0)) ∧ Upto [] (w1.alloc (.cells #[.int .i64 4, .string ⟨tx.toArray⟩, .int .i64 tv, .int .i64 tl, .int .i64 tc] 83)) W4 :=
           ⟨_, _, rfl, rfl, by have := set_same HN2.out 0 (.func (.func k) #[] #[]); simpa using this, HU3.out.setCell (Or.inr (by simp)) _⟩
         rw [← hW4, ← hBp]
         clear hW4 hBp)
      | (obtain ⟨W4, Bp, hW4, hBp, hn4, hu4⟩ : ∃ W4 Bp, W4 = w3 ∧ Bp = w1.heap.size + 1 ∧ W4.heap[Bp]? = some (.cells #[.func (.func k) #[] #[]] 191 (0, 0)) ∧ Upto [] (w1.alloc (.cells #[.int .i64 4, .string ⟨tx.toArray⟩, .int .i64 tv, .int .i64 tl, .int .i64 tc] 83)) W4 :=
           ⟨_, _, rfl, rfl, HN2.out, HU3.out⟩
         rw [← hW4, ← hBp]
         clear hW4 hBp)
      have HR4 := Lib.hid (HR2.out.ext hu4)
      have HX4 := Lib.hid (HX2.out.ext hu4)
      have HU4 := Lib.hid (HU2.out.trans_ext hu4)
      have hz4 := hu4.at HZ2.out (by simp)
      have HNW : Hid (W4.heap[w.heap.size]? = some (.cells #[.int .i64 0, .slice none 0 0, .int .i64 0, .int .i64 0, .int .i64 0, .slice none 0 0] 34 (0, 0))) := Lib.hid hz4
      have q0 := cell_of hn4 0
      simp only [List.getElem?_toArray, List.getElem?_cons_zero] at q0
      obtain ⟨⟨vr, hb4, -, -⟩, -, -⟩ := id HR4.out
      have b2 := cell_of hb4 2
      unfold rdC at b2
      simp only [List.getElem?_toArray, List.getElem?_cons_zero, List.getElem?_cons_succ] at b2
      clear hn4 hu4 hz4 hb4
      go_wp2_with fail
      refine (atom_calls W4 p l s s' n HX4.out HR4.out hd he).mono ?_
      rintro e w5 ⟨vv, rfl, hn, hR5, hu5, ha⟩
      obtain ⟨oa, na1, na2, na3, sa, ma, qa, la1, la2, la3, rfl⟩ := hn.six
      have hz := hu5.at HNW.out (by have := HpB.out; simp; omega)
      obtain ⟨z0, z1, z2, z3, z4, z5⟩ := cells6 hz
      obtain ⟨y0, y1, y2, y3, y4, y5⟩ := frees6 hz
      have HZ := Lib.hid hz
      have HN5 := Lib.hid hn
      have HR5 := Lib.hid hR5
      have HU5 := Lib.hid (HU4.out.trans_same hu5)
      have HA := Lib.hid ha
      have HS4 := Lib.hid (And.intro (lt_of_heap HNW.out) HU4.out.size)
      clear hn hR5 hu5 ha hz
      go_wp2_with fail
      have hst := nd_store HZ.out (.int .i64 oa) (.slice na1 na2 na3) (.int .i64 sa) (.int .i64 ma) (.int .i64 qa) (.slice la1 la2 la3)
      obtain ⟨q0, q1, q2, q3, q4, q5⟩ := cells6 hst
      exact bodyPost_ret (v := .agg #[.int .i64 oa, .slice na1 na2 na3, .int .i64 sa, .int .i64 ma, .int .i64 qa, .slice la1 la2 la3]) (by simp [results, Tryz.results147, go_sem, q0, q1, q2, q3, q4, q5]) rfl (rdpost_at (Nat.le_refl _) HpB.out HU5.out HR5.out HZ.out HA.out HN5.out (fun b hb _ => by have h1 := HS4.out; unfold New at hb ⊢; omega)))
set_option maxRecDepth 100000 in
set_option maxHeartbeats 12800000 in
theorem operand_other (w : World) (p : Nat) (l : List Tok) (s s' : PS) (n : Nd) (hx : Cx w p l) (h : RdAt w p l s) (tk tv tl tc : Nat) (tx : List UInt8) (HT : Hid (tkAt l s = ⟨tk, tx, tv, tl, tc⟩)) (hd : s.dp ≤ 256) (h3 : tk ≠ 3) (h4 : tk ≠ 4) (he : atomP l s = some (n, s')) :
    Calls Tryz.prog 147 #[.pointer (some ⟨p, 0, none⟩)] w (RdPost w p l s n s') := by
  have k3 : ((tk : Int) == 3) = false := by rw [beq_eq_false_iff_ne]; omega
  have k4 : ((tk : Int) == 4) = false := by rw [beq_eq_false_iff_ne]; omega
  clear h3 h4
  have HpB : Hid (p < w.heap.size) := Lib.hid h.lt
  have hu0 : Upto [] w (w.alloc (.cells #[.int .i64 0, .slice none 0 0, .int .i64 0, .int .i64 0, .int .i64 0, .slice none 0 0] 34)) := (Upto.refl [] w).alloc _
  have HR0 := Lib.hid (h.ext hu0)
  have HX0 := Lib.hid (hx.ext hu0)
  have HU0 : Hid (Upto [p] w (w.alloc (.cells #[.int .i64 0, .slice none 0 0, .int .i64 0, .int .i64 0, .int .i64 0, .slice none 0 0] 34))) := Lib.hid (hu0.mono (by simp))
  have HNew : Hid ((w.alloc (.cells #[.int .i64 0, .slice none 0 0, .int .i64 0, .int .i64 0, .int .i64 0, .slice none 0 0] 34)).heap[w.heap.size]? = some (.cells #[.int .i64 0, .slice none 0 0, .int .i64 0, .int .i64 0, .int .i64 0, .slice none 0 0] 34 (0, 0))) := Lib.hid (new_at _ _)
  have HN := Lib.hid (next_calls _ p l s HR0.out)
  clear h hu0
  go_enter Tryz.func147, Tryz.ntmps147
  go_wp2_with fail
  refine HN.out.mono ?_
  rintro e w1 ⟨rfl, hu1⟩
  rw [HT.out]
  unfold tkA
  have HU1 := Lib.hid (HU0.out.trans_ext hu1)
  have HU2 : Hid (Upto [p] w (w1.alloc (.cells #[.int .i64 tk, .string ⟨tx.toArray⟩, .int .i64 tv, .int .i64 tl, .int .i64 tc] 83))) := Lib.hid ((HU0.out.trans_ext hu1).alloc _)
  have HZ2 : Hid ((w1.alloc (.cells #[.int .i64 tk, .string ⟨tx.toArray⟩, .int .i64 tv, .int .i64 tl, .int .i64 tc] 83)).heap[w.heap.size]? = some (.cells #[.int .i64 0, .slice none 0 0, .int .i64 0, .int .i64 0, .int .i64 0, .slice none 0 0] 34 (0, 0))) := Lib.hid (alloc_old (hu1.at HNew.out (by simp)) _)
  have HTB : Hid ((w1.alloc (.cells #[.int .i64 tk, .string ⟨tx.toArray⟩, .int .i64 tv, .int .i64 tl, .int .i64 tc] 83)).heap[w1.heap.size]? = some (.cells #[.int .i64 tk, .string ⟨tx.toArray⟩, .int .i64 tv, .int .i64 tl, .int .i64 tc] 83 (0, 0))) := Lib.hid (new_at _ _)
  have HR2 : Hid (RdAt (w1.alloc (.cells #[.int .i64 tk, .string ⟨tx.toArray⟩, .int .i64 tv, .int .i64 tl, .int .i64 tc] 83)) p l s) := Lib.hid ((HR0.out.ext hu1).ext ((Upto.refl [] w1).alloc _))
  have HX2 : Hid (Cx (w1.alloc (.cells #[.int .i64 tk, .string ⟨tx.toArray⟩, .int .i64 tv, .int .i64 tl, .int .i64 tc] 83)) p l) := Lib.hid (HX0.out.upto ((hu1.mono (by simp)).alloc _))
  have HSZ : Hid (w.heap.size < (w1.alloc (.cells #[.int .i64 tk, .string ⟨tx.toArray⟩, .int .i64 tv, .int .i64 tl, .int .i64 tc] 83)).heap.size) := Lib.hid (lt_of_heap HZ2.out)
  clear hu1 HN
  have x0 := cell_of HTB.out 0
  simp only [List.getElem?_toArray, List.getElem?_cons_zero] at x0
  have HU4 := HU2
  have HNW := HZ2
  go_wp2_with fail
  refine (atom_calls _ p l s s' n HX2.out HR2.out hd he).mono ?_
  rintro e w5 ⟨vv, rfl, hn, hR5, hu5, ha⟩
  obtain ⟨oa, na1, na2, na3, sa, ma, qa, la1, la2, la3, rfl⟩ := hn.six
  have hz := hu5.at HNW.out (by have := HpB.out; simp; omega)
  obtain ⟨z0, z1, z2, z3, z4, z5⟩ := cells6 hz
  obtain ⟨y0, y1, y2, y3, y4, y5⟩ := frees6 hz
  have HZ := Lib.hid hz
  have HN5 := Lib.hid hn
  have HR5 := Lib.hid hR5
  have HU5 := Lib.hid (HU4.out.trans_same hu5)
  have HA := Lib.hid ha
  have HS4 := Lib.hid (And.intro (lt_of_heap HNW.out) HU4.out.size)
  clear hn hR5 hu5 ha hz
  go_wp2_with fail
  have hst := nd_store HZ.out (.int .i64 oa) (.slice na1 na2 na3) (.int .i64 sa) (.int .i64 ma) (.int .i64 qa) (.slice la1 la2 la3)
  obtain ⟨q0, q1, q2, q3, q4, q5⟩ := cells6 hst
  exact bodyPost_ret (v := .agg #[.int .i64 oa, .slice na1 na2 na3, .int .i64 sa, .int .i64 ma, .int .i64 qa, .slice la1 la2 la3]) (by simp [results, Tryz.results147, go_sem, q0, q1, q2, q3, q4, q5]) rfl (rdpost_at (Nat.le_refl _) HpB.out HU5.out HR5.out HZ.out HA.out HN5.out (fun b hb _ => by have h1 := HS4.out; unfold New at hb ⊢; omega))
end Go.Proofs.YtkhbpebpljdifaaGreatDoor
namespace Go.Proofs.YtkhbpebpljdifaaGreatDoor
open Go.RowKit Go.PL Go.Maps Go.Shelf
attribute [local go_sem] Oper.semAt_some
def KeepsL (L : List Nat) (W W' : World) : Prop := ∀ k ∈ L, W'.heap[k]? = W.heap[k]?
theorem KeepsL.trans {L : List Nat} {A B C : World} (h : KeepsL L A B) (k : KeepsL L B C) : KeepsL L A C := fun i hi => (k i hi).trans (h i hi)
abbrev Ix (r : Nat) : Type := { i : Nat // i < r }
def encsB (r : Nat) (c : Nat → Nat → Value) (x : Ix r) : Array Value := #[.int .i64 x.1, .agg #[c x.1 0, c x.1 1, c x.1 2, c x.1 3, c x.1 4, c x.1 5]]
def Down {r : Nat} (xs : List (Ix r)) : Prop := xs.length ≤ r ∧ ∀ (j : Nat) x, xs[j]? = some x → x.1 + j + 1 = r
set_option maxRecDepth 100000 in
set_option maxHeartbeats 1000000 in
theorem backn_in (n : Nat) (a : Option Addr) (len cap : Nat) (w : World) :
    CallsIn Fence.wide n Tryz.prog 125 #[.slice a len cap] w fun e w' => e = .returned (.func (.func 148) #[] #[.pointer (some ⟨w.heap.size, 0, none⟩)]) ∧ w' = w.alloc (.cells #[.slice a len cap] 32) := by
  refine callsIn_of_wp Tryz.func125 rfl trivial ?_ rfl
  simp only [Tryz.ntmps125, List.size_toArray, List.length_cons, List.length_nil, Nat.reduceAdd, Nat.reduceSub, Array.replicate_succ, Array.replicate_zero, List.push_toArray, List.append_toArray, List.nil_append, List.cons_append]
  gi_wp2
  go_ret
  exact ⟨rfl, rfl⟩
set_option maxRecDepth 100000 in
set_option maxHeartbeats 4000000 in
theorem back_in (n : Nat) (hn : 1 ≤ n) (l Bs g o r cap : Nat) (hr : r ≤ 100000000) (c : Nat → Nat → Value) (J Jx : List (Ix r) → World → Prop)
    (hY : ∀ pre x W, J pre W → pre.length < r → YieldAt Fence.wide (n - 1) Tryz.prog l (encsB r c x) W fun e W' =>
      (e = .returned (.bool true) ∧ J (pre ++ [x]) W' ∧ KeepsL [Bs, g] W W') ∨ (e = .returned (.bool false) ∧ Jx (pre ++ [x]) W'))
    (W : World) (hBs : W.heap[Bs]? = some (.cells #[.slice (some ⟨g, o, none⟩) r cap] 32 (0, 0))) (hc : ∀ i j, i < r → j < 6 → W.cell? ⟨g, o + i * 6 + j, none⟩ = some (c i j)) (h0 : J [] W) :
    CallsIn Fence.wide n Tryz.prog 148 #[.func (.yield l) #[] #[], .pointer (some ⟨Bs, 0, none⟩)] W fun e W' => (∃ v, e = .returned v) ∧
      ((∃ ys, (Down ys ∧ ys.length = r) ∧ J ys W') ∨ (∃ pre, Down pre ∧ Jx pre W')) := by
  have c0 := cell_of hBs 0
  simp only [List.getElem?_toArray, List.getElem?_cons_zero] at c0
  have HBS := Lib.hid hBs
  have HCC := Lib.hid hc
  have hr0 : (0 : Int) ≤ r := by omega
  have hr1 : (r : Int) ≤ 100000000 := by omega
  clear hBs hc
  refine callsIn_of_wp Tryz.func148 rfl trivial ?_ rfl
  simp only [Tryz.ntmps148, List.size_toArray, List.length_cons, List.length_nil, Nat.reduceAdd, Nat.reduceSub, Array.replicate_succ, Array.replicate_zero, List.push_toArray, List.append_toArray, List.nil_append, List.cons_append]
  gi_wp2
  gi_loopw [3] (fun i wr => ∃ (m : Nat) (pre : List (Ix r)), i = .int .i64 ((m : Int) - 1) ∧ pre.length + m = r ∧ Hid (Down pre ∧ J pre wr ∧ KeepsL [Bs, g] W wr)) (fun i _ => (intOf i + 1).toNat)
  case atStart => exact ⟨r, [], rfl, by simp, Lib.hid ⟨⟨by simp, fun j x h => by simp at h⟩, h0, fun _ _ => rfl⟩⟩
  case round =>
    obtain ⟨m, pre, rfl, hm, HI⟩ := hrel
    clear c0
    cases m with
    | zero =>
      gi_wp2
      go_end0
      exact ⟨⟨_, rfl⟩, .inl ⟨pre, ⟨HI.out.1, by simpa using hm⟩, HI.out.2.1⟩⟩
    | succ q =>
      have hi : ((q + 1 : Nat) : Int) - 1 = q := by omega
      rw [hi]
      have hq : q < r := by omega
      have hqI : (q : Int) < r := by omega
      have hq0 : (0 : Int) ≤ q := by omega
      have hb := (HI.out.2.2 Bs (by simp)).trans HBS.out
      have hg := HI.out.2.2 g (by simp)
      have c0 := cell_of hb 0
      simp only [List.getElem?_toArray, List.getElem?_cons_zero] at c0
      have up : ∀ j, j < 6 → wr.cell? ⟨g, o + q * 6 + j, none⟩ = some (c q j) := fun j hj => (World.cell?_of_block (w := W) hg).trans (HCC.out q j hq hj)
      have e0 := up 0 (by decide)
      have e1 := up 1 (by decide)
      have e2 := up 2 (by decide)
      have e3 := up 3 (by decide)
      have e4 := up 4 (by decide)
      have e5 := up 5 (by decide)
      rw [Nat.add_zero] at e0
      obtain ⟨fn, tmps, assign, body, hy, hR⟩ := hY pre ⟨q, hq⟩ wr HI.out.2.1 (by omega)
      unfold encsB at hy
      simp only at hy
      have HD : Hid (Down (pre ++ [(⟨q, hq⟩ : Ix r)])) := Lib.hid ⟨by simp; omega, fun j x hx => by
        by_cases hj : j < pre.length
        · rw [List.getElem?_append_left hj] at hx
          exact HI.out.1.2 j x hx
        · rw [List.getElem?_append_right (by omega)] at hx
          cases hd : j - pre.length with
          | zero => rw [hd] at hx; simp at hx; subst hx; simp; omega
          | succ z => rw [hd] at hx; simp at hx⟩
      clear up hg hb
      generalize c q 0 = v0 at *
      generalize c q 1 = v1 at *
      generalize c q 2 = v2 at *
      generalize c q 3 = v3 at *
      generalize c q 4 = v4 at *
      generalize c q 5 = v5 at *
      gi_wp2
      refine hR.mono ?_
      rintro e W3 (⟨rfl, hJ3, hB3⟩ | ⟨rfl, hJx3⟩)
      · gi_wp2
        go_roundw
        case rel => exact ⟨q, pre ++ [⟨q, hq⟩], rfl, by simp; omega, Lib.hid ⟨HD.out, hJ3, HI.out.2.2.trans hB3⟩⟩
        case measure => simp [intOf]
      · gi_wp2
        refine bodyPost_ret (results_none rfl _ _ _) rfl ?_
        exact ⟨⟨_, rfl⟩, .inr ⟨pre ++ [⟨q, hq⟩], HD.out, hJx3⟩⟩
theorem back_stops (n : Nat) (hn : 1 ≤ n) (Bs g o r cap : Nat) (hr : r ≤ 100000000) (c : Nat → Nat → Value) (w : World) (hg : g < w.heap.size) (hBs : w.heap[Bs]? = some (.cells #[.slice (some ⟨g, o, none⟩) r cap] 32 (0, 0))) (hc : ∀ i j, i < r → j < 6 → w.cell? ⟨g, o + i * 6 + j, none⟩ = some (c i j)) :
    SeqStopsK Fence.wide n Tryz.prog 148 #[.pointer (some ⟨Bs, 0, none⟩)] (encsB r c) (KeepsL [Bs, g]) (fun ys => Down ys ∧ ys.length = r) (fun pre => Down pre) r w := fun l J Jx W hW _ _ hY h0 =>
  back_in n hn l Bs g o r cap hr c J Jx hY W ((hW.block Bs (lt_of_heap hBs)).trans hBs) (fun i j hi hj => (hW.cell (p := ⟨g, o + i * 6 + j, none⟩) hg).trans (hc i j hi hj)) h0
def cellsN (c : Nat → Nat → Value) (n : Nat) : List Value := (List.range n).flatMap fun i => [c i 0, c i 1, c i 2, c i 3, c i 4, c i 5]
theorem cellsN_at (c : Nat → Nat → Value) {n i j : Nat} (hi : i < n) (hj : j < 6) : (cellsN c n)[i * 6 + j]? = some (c i j) := by
  unfold cellsN
  rw [flatMap_at (fun i => [c i 0, c i 1, c i 2, c i 3, c i 4, c i 5]) 6 (fun _ => rfl) (List.range n) i j i (by rw [List.getElem?_range hi]) hj]
  have : j = 0 ∨ j = 1 ∨ j = 2 ∨ j = 3 ∨ j = 4 ∨ j = 5 := by omega
  rcases this with rfl | rfl | rfl | rfl | rfl | rfl <;> rfl
def addC (c : Nat → Nat → Value) (n : Nat) (v0 v1 v2 v3 v4 v5 : Value) : Nat → Nat → Value := fun i j => if i = n then (match j with | 0 => v0 | 1 => v1 | 2 => v2 | 3 => v3 | 4 => v4 | _ => v5) else c i j
theorem fm_congr {α β : Type} (f g : α → List β) : ∀ (L : List α), (∀ i ∈ L, f i = g i) → L.flatMap f = L.flatMap g
  | [], _ => rfl
  | x :: xs, h => by rw [List.flatMap_cons, List.flatMap_cons, h x (by simp), fm_congr f g xs fun i hi => h i (by simp [hi])]
theorem cellsN_add (c : Nat → Nat → Value) (n : Nat) (v0 v1 v2 v3 v4 v5 : Value) : cellsN (addC c n v0 v1 v2 v3 v4 v5) (n + 1) = cellsN c n ++ [v0, v1, v2, v3, v4, v5] := by
  unfold cellsN
  rw [List.range_succ, List.flatMap_append]
  congr 1
  · refine fm_congr _ _ _ fun i hi => ?_
    have := List.mem_range.1 hi
    simp [addC, Nat.ne_of_lt this]
  · simp [addC]
def Lr (w0 : World) (B : Nat) (v : Value) (b : Nat) : Prop := New w0 b ∧ b ≠ B ∧ v.ownBlock ≠ some b
structure NdRow (w0 w : World) (B : Nat) (c : Nat → Nat → Value) (v : Value) (ms : List Nd) : Prop where
  row : w.ownsRow 0 34 6 v ms.length (cellsN c ms.length)
  nd : ∀ i m, ms[i]? = some m → NdV w (Lr w0 B v) m (.agg #[c i 0, c i 1, c i 2, c i 3, c i 4, c i 5])
  own : ∀ g, v.ownBlock = some g → w0.heap.size ≤ g ∧ g ≠ B
theorem NdRow.upto {w0 w w' : World} {S : List Nat} {B : Nat} {c : Nat → Nat → Value} {v : Value} {ms : List Nd} (h : NdRow w0 w B c v ms) (hu : Upto S w w') (hS : ∀ k ∈ S, k < w0.heap.size ∨ k = B) : NdRow w0 w' B c v ms :=
  ⟨ownsRow_upto h.row hu (fun g hg hm => by have h1 := h.own g hg; rcases hS g hm with h2 | h2 <;> omega),
   fun i m hi => (h.nd i m hi).upto hu (fun b hb _ hm => by have h1 := hb.1; unfold New at h1; rcases hS b hm with h2 | h2; omega; exact hb.2.1 h2), h.own⟩
theorem six_at {w : World} {g : Nat} {v0 v1 v2 v3 v4 v5 : Value} {t : TypeId} {z : Nat × Nat} (h : w.heap[g]? = some (.cells #[v0, v1, v2, v3, v4, v5] t z)) : ∀ (j : Nat) u, [v0, v1, v2, v3, v4, v5][j]? = some u → w.cell? ((⟨g, 0, none⟩ : Addr).add j) = some u := by
  intro j u hj
  rw [Addr.add_lit, Nat.zero_add, cell_of h]
  simpa using hj
theorem row_six {w : World} {g : Nat} {v0 v1 v2 v3 v4 v5 : Value} (h : w.heap[g]? = some (.cells #[v0, v1, v2, v3, v4, v5] 34 (0, 0))) : w.ownsRow 0 34 6 (.slice (some ⟨g, 0, none⟩) 1 1) 1 [v0, v1, v2, v3, v4, v5] :=
  ⟨rfl, Or.inr ⟨g, 1, _, rfl, Nat.zero_le _, h, Nat.le_refl _, by unfold maxLen; omega, rfl, rfl⟩⟩
theorem NdRow.one {w0 w : World} {B g : Nat} {m : Nd} {v0 v1 v2 v3 v4 v5 : Value} (h : w.heap[g]? = some (.cells #[v0, v1, v2, v3, v4, v5] 34 (0, 0))) (hm : NdV w (fun b => New w0 b ∧ b ≠ B ∧ b ≠ g) m (.agg #[v0, v1, v2, v3, v4, v5])) (hg : w0.heap.size ≤ g ∧ g ≠ B) :
    NdRow w0 w B (addC (fun _ _ => undef) 0 v0 v1 v2 v3 v4 v5) (.slice (some ⟨g, 0, none⟩) 1 1) [m] := by
  refine ⟨?_, ?_, ?_⟩
  · have := cellsN_add (fun _ _ => undef) 0 v0 v1 v2 v3 v4 v5
    rw [List.length_singleton, this]
    exact row_six h
  · intro i x hi
    match i, hi with
    | 0, hi =>
      simp at hi
      subst hi
      exact hm.mono fun b hb _ => ⟨hb.1, hb.2.1, by simp [Value.ownBlock]; exact fun e => hb.2.2 e.symm⟩
  · intro g' hg'
    simp [Value.ownBlock] at hg'
    subst hg'
    exact hg
theorem NdRow.app {w0 w w5 : World} {B : Nat} {c : Nat → Nat → Value} {v : Value} {ms : List Nd} {m : Nd} {v0 v1 v2 v3 v4 v5 : Value} {b' : Option Addr} {c' : Nat} (h : NdRow w0 w B c v ms) (hsz : w0.heap.size ≤ w.heap.size) (hBw : B < w.heap.size)
    (hm : NdV w (Lr w0 B v) m (.agg #[v0, v1, v2, v3, v4, v5])) (ho : w5.ownsRow 0 34 6 (.slice b' (ms.length + 1) c') (ms.length + 1) (cellsN c ms.length ++ [v0, v1, v2, v3, v4, v5])) (hu : Upto v.ownBlock.toList w w5)
    (hw : ∀ g, (Value.slice b' (ms.length + 1) c').ownBlock = some g → v.ownBlock = some g ∨ w.heap.size ≤ g) : NdRow w0 w5 B (addC c ms.length v0 v1 v2 v3 v4 v5) (.slice b' (ms.length + 1) c') (ms ++ [m]) := by
  have key : ∀ x u, NdV w (Lr w0 B v) x u → NdV w5 (Lr w0 B (.slice b' (ms.length + 1) c')) x u := fun x u hx =>
    NdV.keep ⟨hu.size, fun b hb hl => ⟨⟨hb.1, hb.2.1, fun e => by
      rcases hw b e with h1 | h1
      · exact hb.2.2 h1
      · have := hl.lt; omega⟩, hu.block b hl.lt (fun hmm => hb.2.2 (Option.mem_toList.1 hmm))⟩⟩ x u hx
  refine ⟨?_, ?_, ?_⟩
  · rw [List.length_append, List.length_singleton, cellsN_add]
    exact ho
  · intro i x hi
    by_cases hlt : i < ms.length
    · rw [List.getElem?_append_left hlt] at hi
      have := key _ _ (h.nd i x hi)
      simpa [addC, Nat.ne_of_lt hlt] using this
    · rw [List.getElem?_append_right (by omega)] at hi
      cases hd : i - ms.length with
      | zero =>
        rw [hd] at hi
        simp at hi
        subst hi
        have : i = ms.length := by omega
        subst this
        simpa [addC] using key _ _ hm
      | succ z => rw [hd] at hi; simp at hi
  · intro g hg
    rcases hw g hg with h1 | h1
    · exact h.own g h1
    · exact ⟨by omega, by omega⟩
theorem NdRow.cells {w0 w : World} {B : Nat} {c : Nat → Nat → Value} {v : Value} {ms : List Nd} (h : NdRow w0 w B c v ms) (hne : ms ≠ []) : ∃ g cap, v = .slice (some ⟨g, 0, none⟩) ms.length cap ∧ ms.length ≤ cap ∧ g < w.heap.size ∧ ∀ i j, i < ms.length → j < 6 → w.cell? ⟨g, 0 + i * 6 + j, none⟩ = some (c i j) := by
  rcases h.row.2 with ⟨-, h0⟩ | ⟨g, cap, cur, rfl, _, hh, h1, _, _, ht⟩
  · exact absurd (List.eq_nil_of_length_eq_zero h0) hne
  · refine ⟨g, cap, rfl, h1, lt_of_heap hh, fun i j hi hj => ?_⟩
    rw [cell_of hh]
    have := cellsN_at c hi hj
    rw [← ht, List.getElem?_take] at this
    split at this
    · simpa using this
    · cases this
theorem info59 : (Tryz.prog.info? 34).map (fun i => (i.zero, i.size, i.bytes)) = some (some (.agg #[.int .i64 0, .slice none 0 0, .int .i64 0, .int .i64 0, .int .i64 0, .slice none 0 0]), 6, 80) := by kernel_rfl
theorem info59' : ∃ i, Tryz.prog.info? 34 = some i ∧ i.zero = some (.agg #[.int .i64 0, .slice none 0 0, .int .i64 0, .int .i64 0, .int .i64 0, .slice none 0 0]) ∧ i.size = 6 ∧ i.bytes = 80 := by
  have h := info59
  cases hi : Tryz.prog.info? 34 with
  | none => rw [hi] at h; cases h
  | some i =>
    rw [hi] at h
    simp only [Option.map_some, Option.some.injEq, Prod.mk.injEq] at h
    exact ⟨i, rfl, h.1, h.2.1, h.2.2⟩
def ImpI (w : World) (p : Nat) (l : List Tok) (of : Rd) (s s' : PS) (a : List Nd) (v : Value) (wr : World) : Prop :=
  ∃ k ms t c, implLoop l (orsP l of) k ms t = some (a, s') ∧ RdAt wr p l t ∧ Upto [p] w wr ∧ Adv l s t ∧ wr.heap[w.heap.size]? = some (.cells #[.int .i64 0, .slice none 0 0, .int .i64 0, .int .i64 0, .int .i64 0, .slice none 0 0] 34 (0, 0)) ∧ NdRow w wr w.heap.size c v ms ∧ ms ≠ [] ∧ ms.length ≤ t.nx + 1
end Go.Proofs.YtkhbpebpljdifaaGreatDoor
