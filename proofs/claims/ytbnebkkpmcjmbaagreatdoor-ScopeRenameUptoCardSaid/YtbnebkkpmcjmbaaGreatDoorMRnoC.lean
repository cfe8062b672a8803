/- Texts merged, in build order: Va, Vb, Vc, Vd, Ve, Vf, Vg, Vh, Vi. -/
import Derived.Test.YtbnebkkpmcjmbaaGreatDoorMRnnC
namespace Go.Proofs.YtbnebkkpmcjmbaaGreatDoor
open Go.RowKit Go.PL Go.Maps
def rnAt (op:Int) (bb:Bool) (fr ta:List UInt8):Nat→List (List UInt8)→List (List UInt8)
 | _,[]=>[]
 | i,x::r=>(if x=fr∧bb=false∧(op≠10∨0<i) then ta else x)::rnAt op bb fr ta (i+1) r
theorem rnAt_len (op:Int) (bb:Bool) (fr ta:List UInt8):∀(i:Nat) (l:List (List UInt8)),(rnAt op bb fr ta i l).length=l.length
 | _,[]=>rfl
 | i,x::r=>by
  unfold rnAt
  rw [List.length_cons,List.length_cons,rnAt_len op bb fr ta (i+1) r]
theorem rnAt_get (op:Int) (bb:Bool) (fr ta:List UInt8):∀(l:List (List UInt8)) (i j:Nat) (x:List UInt8),l[j]?=some x→(rnAt op bb fr ta i l)[j]?=some (if x=fr∧bb=false∧(op≠10∨0<i+j) then ta else x)
 | [],i,j,x,h=>by simp at h
 | y::r,i,0,x,h=>by
  simp at h
  subst h
  rfl
 | y::r,i,j+1,x,h=>by
  unfold rnAt
  rw [List.getElem?_cons_succ,rnAt_get op bb fr ta r (i+1) j x (by simpa using h),show i+1+j=i+(j+1) by omega]
theorem rnAt_map (op:Int) (fr ta:List UInt8):∀(l:List (List UInt8)) (i:Nat),(op≠10∨0<i)→rnAt op false fr ta i l=l.map (rnName fr ta)
 | [],i,_=>rfl
 | x::r,i,h=>by
  unfold rnAt
  rw [rnAt_map op fr ta r (i+1) (Or.inr (by omega)),List.map_cons]
  congr 1
  unfold rnName
  by_cases hx:x=fr
  ·rw [if_pos ⟨hx,rfl,h⟩,if_pos hx]
  ·rw [if_neg (fun h2=>hx h2.1),if_neg hx]
theorem shape_none {op:Int} {k n:Nat} (h:shapeBad op k n=false) (h1:¬op=10) (h2:¬(2≤op∧op<10)) (h3:¬(op=16∨op=17)) (h0:kindBad op=false):k=0:=by
 simp only [kindBad,Bool.or_eq_false_iff,decide_eq_false_iff_not] at h0
 simp only [shapeBad,Bool.or_eq_false_iff,decide_eq_false_iff_not] at h
 obtain⟨⟨-,h5⟩,-⟩:=h
 unfold hasF at h5
 by_cases a1:op<2
 ·rw [if_pos a1] at h5;simp at h5;omega
 ·rw [if_neg a1,if_neg (by omega),if_neg (by omega),if_neg h1] at h5
  by_cases a2:op=11
  ·rw [if_pos a2] at h5;simp at h5;omega
  ·rw [if_neg a2] at h5
   by_cases a3:op<16
   ·rw [if_pos a3] at h5;simp at h5;omega
   ·omega
theorem rnAt_uses {op so nn mm:Int} {nms:List (List UInt8)} {l:List Nd} {fr ta:List UInt8} (hf:formF nameF (.mk op nms so nn mm l)=0) (hb:bindsF op nms.length=false):rnAt op false fr ta 0 nms=rnUses op (rnName fr ta) nms:=by
 obtain⟨k1,k2,-⟩:=form_iff.1 hf
 unfold rnUses
 by_cases h10:op=10
 ·rw [if_pos h10]
  cases nms with
  | nil=>rfl
  | cons x r =>
   unfold rnAt
   rw [rnAt_map op fr ta r 1 (Or.inr (by omega)),if_neg (fun h=>by rcases h.2.2 with h | h;exact h h10;omega)]
   rfl
 ·rw [if_neg h10,rnAt_map op fr ta nms 0 (Or.inl h10)]
  by_cases h2:2≤op∧op<10
  ·rw [if_pos h2]
  ·rw [if_neg h2]
   by_cases h16:op=16∨op=17
   ·have h0:¬0<nms.length:=fun h=>by
     unfold bindsF at hb
     rcases h16 with rfl | rfl<;>simp [h] at hb
    have hn0:nms=[]:=List.eq_nil_of_length_eq_zero (by omega)
    rw [hn0]
    rfl
   ·have hn0:nms=[]:=List.eq_nil_of_length_eq_zero (shape_none k2 h10 h2 h16 k1)
    rw [hn0]
    rfl
theorem ren_eq:∀(d:Nat) (fr:List UInt8) (n:Nd),oneN n→renF d fr fr n=n
 | 0,fr,n,_=>by unfold renF;rfl
 | d+1,fr,.mk op nms so nn mm l,ho=>by
  unfold oneN at ho
  have hid:∀y,rnName fr fr y=y:=fun y=>by
   unfold rnName
   split
   ·rename_i h;exact h.symm
   ·rfl
  cases hb:bindsF op nms.length with
  | true =>
   obtain⟨h1,h2⟩:=ho.1 hb
   match nms,h1,l,h2,hb,ho with
   | [b],_,[x],_,hb,ho =>
    rw [renF_one _ _ _ _ _ _ _ _ _ hb]
    split
    ·rfl
    ·rename_i h3
     rw [if_neg (fun h=>h3 h.1),ren_eq d fr x (onesN_mem ho.2 x (by simp))]
  | false =>
   rw [renF_no _ _ _ _ _ _ _ _ _ (by rw [hb];simp),uses_same (fun y _=>hid y),map_kids (fun x hx=>ren_eq d fr x (onesN_mem ho.2 x hx))]
structure AnRow (P:Nat→Prop) (w0 w:World) (c:Nat→Nat→Value) (v:Value) (ms:List Nd):Prop where
 row:w.ownsRow 0 25 6 v ms.length (cellsN c ms.length)
 nd:∀i m,ms[i]?=some m→NdV w (fun b=>P b∧v.ownBlock≠some b) m (.agg #[c i 0,c i 1,c i 2,c i 3,c i 4,c i 5])
 own:∀g,v.ownBlock=some g→w0.heap.size≤g
theorem AnRow.ext {P:Nat→Prop} {w0 w w':World} {c:Nat→Nat→Value} {v:Value} {ms:List Nd} (h:AnRow P w0 w c v ms) (hu:Upto [] w w'):AnRow P w0 w' c v ms:=⟨ownsRow_upto h.row hu (by simp),fun i m hi=>(h.nd i m hi).ext hu,h.own⟩
theorem AnRow.nil (P:Nat→Prop) (w0 w:World) (c:Nat→Nat→Value):AnRow P w0 w c (.slice none 0 0) []:=⟨World.ownsRow_nil _ 0 25 6,fun i m hi=>by simp at hi,fun g hg=>by simp [Value.ownBlock] at hg⟩
theorem AnRow.app {P:Nat→Prop} {w0 w w5:World} {c:Nat→Nat→Value} {v:Value} {ms:List Nd} {n:Nat} {m:Nd} {v0 v1 v2 v3 v4 v5:Value} {b':Option Addr} {c':Nat} (h:AnRow P w0 w c v ms) (hn:ms.length=n) (hsz:w0.heap.size≤w.heap.size)
  (hm:NdV w (fun b=>P b∧v.ownBlock≠some b) m (.agg #[v0,v1,v2,v3,v4,v5])) (ho:w5.ownsRow 0 25 6 (.slice b' (n+1) c') (n+1) (cellsN c n++[v0,v1,v2,v3,v4,v5])) (hu:Upto v.ownBlock.toList w w5)
  (hw:∀g,(Value.slice b' (n+1) c').ownBlock=some g→v.ownBlock=some g∨w.heap.size≤g):AnRow P w0 w5 (addC c n v0 v1 v2 v3 v4 v5) (.slice b' (n+1) c') (ms++[m]):=by
 subst hn
 have key:∀x u,NdV w (fun b=>P b∧v.ownBlock≠some b) x u→NdV w5 (fun b=>P b∧(Value.slice b' (ms.length+1) c').ownBlock≠some b) x u:=fun x u hx =>
  NdV.keep ⟨hu.size,fun b hb hl=>⟨⟨hb.1,fun e=>by
   rcases hw b e with h1 | h1
   ·exact hb.2 h1
   ·have:=hl.lt;omega⟩,hu.block b hl.lt (fun hmm=>hb.2 (Option.mem_toList.1 hmm))⟩⟩ x u hx
 refine⟨?_,?_,?_⟩
 ·rw [List.length_append,List.length_singleton,cellsN_add]
  exact ho
 ·intro i x hi
  by_cases hlt:i<ms.length
  ·rw [List.getElem?_append_left hlt] at hi
   have:=key _ _ (h.nd i x hi)
   simpa [addC,Nat.ne_of_lt hlt] using this
  ·rw [List.getElem?_append_right (by omega)] at hi
   cases hd:i-ms.length with
   | zero =>
    rw [hd] at hi
    simp at hi
    subst hi
    have:i=ms.length:=by omega
    subst this
    simpa [addC] using key _ _ hm
   | succ z=>rw [hd] at hi;simp at hi
 ·intro g hg
  rcases hw g hg with h1 | h1
  ·exact h.own g h1
  ·exact Nat.le_trans hsz h1
theorem AnRow.list {P:Nat→Prop} {w0 w:World} {c:Nat→Nat→Value} {v:Value} {ms:List Nd} {Q:Nat→Prop} (h:AnRow P w0 w c v ms) (h1:∀b,P b→Q b) (h2:∀g,w0.heap.size≤g→Q g):(ms=[]∧∃a c,v=.slice a 0 c)∨∃g o c,v=.slice (some ⟨g,o,none⟩) ms.length c∧(Q g∧IsC w g)∧NdsV w Q g o ms:=by
 rcases h.row.2 with⟨e,h0⟩ | ⟨g,cap,cur,e,_,hh,_,_,_,ht⟩
 ·exact Or.inl ⟨List.eq_nil_of_length_eq_zero h0,none,0,e⟩
 ·refine Or.inr ⟨g,0,cap,e,⟨h2 g (h.own g (by rw [e];rfl)),_,_,_,hh⟩,nds_of ms 0 fun i x hi=>?_⟩
  have hil:i<ms.length:=(List.getElem?_eq_some_iff.1 hi).1
  have cl:∀j,j<6→w.cell? ⟨g,0+i*6+j,none⟩=some (c i j):=fun j hj=>by
   rw [cell_of hh]
   have:=cellsN_at c hil hj
   rw [←ht,List.getElem?_take] at this
   split at this
   ·simpa using this
   ·cases this
  exact⟨_,_,_,_,_,_,cl 0 (by omega),cl 1 (by omega),cl 2 (by omega),cl 3 (by omega),cl 4 (by omega),cl 5 (by omega),(h.nd i x hi).mono fun b hb _=>h1 b hb.1⟩
set_option maxRecDepth 100000 in
set_option maxHeartbeats 3200000 in
theorem with51_calls (op so nn mm:Int) (a1 a2 b1 b2:Option Addr) (n1 c1 n2 c2 m1 d1 m2 d2:Nat) (w:World):Calls Tryz.prog 51 #[.agg #[.int .i64 op,.slice a1 n1 c1,.int .i64 so,.int .i64 nn,.int .i64 mm,.slice a2 n2 c2],.slice b1 m1 d1,.slice b2 m2 d2] w fun e w'=>e=.returned (.agg #[.int .i64 op,.slice b1 m1 d1,.int .i64 so,.int .i64 nn,.int .i64 mm,.slice b2 m2 d2])∧Upto [] w w':=by
 have hst:=new_at1 w (.cells #[.int .i64 op,.slice b1 m1 d1,.int .i64 so,.int .i64 nn,.int .i64 mm,.slice b2 m2 d2] 25) (.cells #[.int .i64 op,.slice b1 m1 d1,.int .i64 so,.int .i64 nn,.int .i64 mm,.slice b2 m2 d2] 25)
 have HST:=Lib.hid hst
 clear hst
 go_enter Tryz.func51,Tryz.ntmps51
 go_wp2_with fail
 obtain⟨q0,q1,q2,q3,q4,q5⟩:=cells6 HST.out
 exact bodyPost_ret (v:=.agg #[.int .i64 op,.slice b1 m1 d1,.int .i64 so,.int .i64 nn,.int .i64 mm,.slice b2 m2 d2]) (by simp [results,Tryz.results51,go_sem,q0,q1,q2,q3,q4,q5]) rfl ⟨rfl,((Upto.refl [] w).alloc _).alloc _⟩
def RrPost (P:Nat→Prop) (w:World) (n':Nd) (e:Ending) (w':World):Prop:=∃v',e=.returned v'∧NdV w' (fun b=>P b∨New w b) n' v'∧Upto [] w w'
structure RrIn (u:World) (d:Nat) (P:Nat→Prop) (n:Nd) (v:Value):Prop where
 nd:NdV u P n v
 deep:depthF n≤d
 form:formF nameF n=0
 few:nmsF n+sizeF n+2≤8000
theorem take_map {α β:Type} (f:α→β) (l:List α) (i:Nat) (x:α) (h:l[i]?=some x):(l.take (i+1)).map f=(l.take i).map f++[f x]:=by
 rw [take_app1 l i x h,List.map_append]
 rfl
theorem own_ne {w:World} {e:TypeId} {z:Nat} {v:Value} {n:Nat} {xs:List Value} (h:w.ownsRow 0 e z v n xs):∀g,v.ownBlock=some g→g<w.heap.size:=fun g hg=>by
 obtain⟨cur,hh⟩:=ownsRow_block h hg
 exact lt_of_heap hh
set_option maxRecDepth 100000 in
set_option maxHeartbeats 25600000 in
theorem rr_plain_calls (d:Nat) (fr ta:List UInt8)
  (IH:∀(x:Nd) (v:Value) (P:Nat→Prop) (u:World),RrIn u d P x v→Calls Tryz.prog 17 #[v,.string ⟨fr.toArray⟩,.string ⟨ta.toArray⟩] u (RrPost P u (renF d fr ta x)))
  (op so nn mm:Int) (nms:List (List UInt8)) (l:List Nd) (v:Value) (P:Nat→Prop) (w:World) (hb:bindsF op nms.length=false) (h:RrIn w (d+1) P (.mk op nms so nn mm l) v) :
  Calls Tryz.prog 17 #[v,.string ⟨fr.toArray⟩,.string ⟨ta.toArray⟩] w (RrPost P w (renF (d+1) fr ta (.mk op nms so nn mm l))):=by
 rw [renF_no _ _ _ _ _ _ _ _ _ (by rw [hb];simp),←rnAt_uses h.form hb]
 obtain⟨L9,hL9⟩:∃L9,L9=rnAt op false fr ta 0 nms:=⟨_,rfl⟩
 have HL9:Hid (L9.length=nms.length∧∀j x,nms[j]?=some x→L9[j]?=some (if x=fr∧false=false∧(op≠10∨0<j) then ta else x)):=Lib.hid ⟨by rw [hL9];exact rnAt_len _ _ _ _ _ _,fun j x hx=>by
  rw [hL9]
  have:=rnAt_get op false fr ta nms 0 j x hx
  rwa [Nat.zero_add] at this⟩
 rw [←hL9]
 clear hL9
 have HKD:Hid (∀x∈l,depthF x≤d∧formF nameF x=0∧nmsF x+sizeF x+2≤8000):=Lib.hid (fun x hx=>⟨by
  have h1:=depths_mem hx
  have h2:=h.deep
  simp only [depthF] at h2
  omega,forms_iff.1 (form_iff.1 h.form).2.2.2.2.2 x hx,by
  have h1:=nmss_mem hx
  have h2:=sizesF_mem hx
  have h3:=h.few
  simp only [nmsF,sizeF] at h3
  omega⟩)
 obtain⟨a1,c1,a2,c2,rfl,hs,hls⟩:=(h.nd.mono (Q:=fun b=>P b∧b<w.heap.size) (fun b hb hl=>⟨hb,hl.lt⟩)).open
 have HS:=Lib.hid hs
 have HLS:=Lib.hid hls
 have hln:nms.length≤8000:=by have h3:=h.few;simp only [nmsF] at h3;omega
 have hll:l.length≤8000:=by have h1:=sizes_len l;have h3:=h.few;simp only [sizeF] at h3;omega
 have HLE:Hid (nms.length≤8000∧l.length≤8000):=Lib.hid ⟨hln,hll⟩
 have HBI:Hid (∀u,Calls Tryz.prog 48 #[.agg #[.int .i64 op,.slice a1 nms.length c1,.int .i64 so,.int .i64 nn,.int .i64 mm,.slice a2 l.length c2]] u fun e w'=>e=.returned (.bool false)∧Upto [] u w'):=Lib.hid (fun u=>by
  have hg:=(good_of _ h.form).1
  unfold goodN at hg
  have:=bindsR_calls op a1 nms.length c1 so nn mm a2 l.length c2 u (fun h2=>hg.1 (Or.inr h2))
  rw [hb] at this
  exact this)
 have IHH:=Lib.hid IH
 obtain⟨n1,hn1⟩:∃n1,n1=nms.length:=⟨_,rfl⟩
 obtain⟨n2,hn2⟩:∃n2,n2=l.length:=⟨_,rfl⟩
 have HN1:Hid (nms.length=n1):=Lib.hid hn1.symm
 have HN2:Hid (l.length=n2):=Lib.hid hn2.symm
 rw [←hn1,←hn2] at HBI HLE
 rw [←hn1] at HL9
 rw [←hn1] at HS
 rw [←hn1,←hn2]
 have hI1:(n1:Int)≤8000:=by have:=HLE.out;omega
 have hI2:(n2:Int)≤8000:=by have:=HLE.out;omega
 have hI10:(0:Int)≤n1:=by omega
 have hI20:(0:Int)≤n2:=by omega
 clear hs hls h IH hln hll hn1 hn2 hb
 obtain⟨i0,hi0,hz0,hz1,hz2⟩:=info9'
 have HI0:=Lib.hid hi0
 have HZ0:=Lib.hid hz0
 have HZ1':=Lib.hid hz1
 have HZ2':=Lib.hid hz2
 obtain⟨i1,hi1,hy0,hy1,hy2⟩:=info54'
 have HI1:=Lib.hid hi1
 have HY0:=Lib.hid hy0
 have HY1':=Lib.hid hy1
 have HY2':=Lib.hid hy2
 clear hi0 hz0 hz1 hz2 hi1 hy0 hy1 hy2
 obtain⟨W,hW⟩:∃W,W=(w.alloc (.cells #[.int .i64 op,.slice a1 n1 c1,.int .i64 so,.int .i64 nn,.int .i64 mm,.slice a2 n2 c2] 25)).alloc (.cells #[.int .i64 0,.slice none 0 0,.int .i64 0,.int .i64 0,.int .i64 0,.slice none 0 0] 25):=⟨_,rfl⟩
 have HU:Hid (Upto [] w W):=Lib.hid (by rw [hW];exact ((Upto.refl [] w).alloc _).alloc _)
 have HB1:Hid (W.heap[w.heap.size]?=some (.cells #[.int .i64 op,.slice a1 n1 c1,.int .i64 so,.int .i64 nn,.int .i64 mm,.slice a2 n2 c2] 25 (0,0))):=Lib.hid (by rw [hW];exact alloc_old (new_at w _) _)
 have HB2:Hid (W.heap[w.heap.size+1]?=some (.cells #[.int .i64 0,.slice none 0 0,.int .i64 0,.int .i64 0,.int .i64 0,.slice none 0 0] 25 (0,0))):=Lib.hid (by rw [hW];exact new_at1 w _ _)
 have HWZ:Hid (w.heap.size+1<W.heap.size):=Lib.hid (lt_of_heap HB2.out)
 have x1:=cell_of HB1.out 1
 simp only [List.getElem?_toArray,List.getElem?_cons_zero,List.getElem?_cons_succ] at x1
 go_enter Tryz.func17,Tryz.ntmps17
 go_wp2_with fail
 simp only [←hW]
 clear hW
 go_wp2_with fail
 go_loopw [7,8] (fun s i wr=>∃(j:Nat) (va:Option Addr) (vc:Nat),j≤n1∧i=.int .i64 j∧s=.slice va j vc∧Hid (TxI W (L9.take j) (.slice va j vc) wr)) (fun _ i _=>n1-(intOf i).toNat)
 case atStart=>exact⟨0,none,0,by omega,rfl,rfl,Lib.hid (by simpa using TxI.nil W W (Upto.refl _ _))⟩
 case round =>
  obtain⟨j,va,vc,hj,rfl,rfl,HT⟩:=hrel
  have hj0:(0:Int)≤j:=by omega
  have HBR:=Lib.hid (HT.out.up.at HB1.out (by simp))
  clear x1
  obtain⟨x0,x1,x2,x3,x4,x5⟩:=cells6 HBR.out
  rcases Nat.lt_or_ge j n1 with hlt | hge
  ·have hjl:(j:Int)<n1:=by omega
   obtain⟨x,hx⟩:∃x,nms[j]?=some x:=⟨nms[j]'(by rw [HN1.out];omega),List.getElem?_eq_getElem _⟩
   obtain⟨g9,o9,hva1,hcell⟩:=slp_cell HS.out HN1.out j x hx
   have hc0:=hcell wr (HU.out.trans_ext HT.out.up)
   have HQ9:=Lib.hid (HL9.out.2 j x hx)
   have HLJ:Hid ((L9.take j).length=j):=Lib.hid (by rw [List.length_take,HL9.out.1];omega)
   clear hx hcell
   subst hva1
   by_cases hz:x=fr
   ·have hzz:(x==fr)=true:=by rw [hz];exact beq_self_eq_true fr
    have HXF:=Lib.hid hz
    clear hz
    go_wp2_with fail
    refine (HBI.out _).mono ?_
    rintro e w5 ⟨rfl,hu5⟩
    have HTX:=Lib.hid (HT.out.ext hu5)
    have HBQ:=Lib.hid (hu5.at HBR.out (by simp))
    clear hu5 x0 x1 x2 x3 x4 x5 hc0
    obtain⟨x0,x1,x2,x3,x4,x5⟩:=cells6 HBQ.out
    by_cases h10:op=10
    ·have h10b:(op != 10)=false:=by rw [h10];rfl
     have H10:=Lib.hid h10
     clear h10
     rcases Nat.eq_zero_or_pos j with hj1 | hj1
     ·have hjn:¬(0:Int)<j:=by omega
      have HY9:Hid (L9[j]?=some x):=Lib.hid (by rw [HQ9.out,if_neg (by rintro⟨-,-,h | h⟩;exact h H10.out;omega)])
      have HJ1:=Lib.hid hj1
      clear hj1
      have hrow2:=(HTX.out.ext ((Upto.refl [] _).alloc (.cells #[.string ⟨x.toArray⟩] 9))).row
      rw [HLJ.out] at hrow2
      have hsrc2:=cells_at (l:=[sV x]) (new_at w5 (.cells #[.string ⟨x.toArray⟩] 9))
      go_wp2_with (at_builtin;refine wpList_app _ rfl (.tmp 45) (.tmp 47) 22 rfl 9 i0 (.string ⟨#[]⟩) 1 16 Tryz.underlying22 HI0.out HZ0.out HZ1'.out HZ2'.out rfl (by decide) (.slice va j vc) j _ rfl hrow2 ⟨w5.heap.size,0,none⟩ 1 1 [sV x] rfl rfl hsrc2 (by simp [Value.oneCell',sV]) (by unfold maxLen;omega) (by omega) ?_;intro vb vd w12 ho hu hw;have HA:=Lib.hid ((HTX.out.ext ((Upto.refl [] _).alloc (.cells #[.string ⟨x.toArray⟩] 9))).app HLJ.out ho hu hw);clear hrow2 hsrc2 ho hu hw)
      exact⟨⟨j+1,vb,vd,by omega,by simp,rfl,Lib.hid (by rw [take_app1 L9 j _ HY9.out];exact HA.out)⟩,by simp [intOf];omega⟩
     ·have hjp:(0:Int)<j:=by omega
      have HY9:Hid (L9[j]?=some ta):=Lib.hid (by rw [HQ9.out,if_pos ⟨HXF.out,by trivial,Or.inr hj1⟩])
      have hrow2:=(HTX.out.ext ((Upto.refl [] _).alloc (.cells #[.string ⟨ta.toArray⟩] 9))).row
      rw [HLJ.out] at hrow2
      have hsrc2:=cells_at (l:=[sV ta]) (new_at w5 (.cells #[.string ⟨ta.toArray⟩] 9))
      go_wp2_with (at_builtin;refine wpList_app _ rfl (.tmp 45) (.tmp 47) 22 rfl 9 i0 (.string ⟨#[]⟩) 1 16 Tryz.underlying22 HI0.out HZ0.out HZ1'.out HZ2'.out rfl (by decide) (.slice va j vc) j _ rfl hrow2 ⟨w5.heap.size,0,none⟩ 1 1 [sV ta] rfl rfl hsrc2 (by simp [Value.oneCell',sV]) (by unfold maxLen;omega) (by omega) ?_;intro vb vd w12 ho hu hw;have HA:=Lib.hid ((HTX.out.ext ((Upto.refl [] _).alloc (.cells #[.string ⟨ta.toArray⟩] 9))).app HLJ.out ho hu hw);clear hrow2 hsrc2 ho hu hw)
      exact⟨⟨j+1,vb,vd,by omega,by simp,rfl,Lib.hid (by rw [take_app1 L9 j _ HY9.out];exact HA.out)⟩,by simp [intOf];omega⟩
    ·have h10b:(op != 10)=true:=by simpa using h10
     have HY9:Hid (L9[j]?=some ta):=Lib.hid (by rw [HQ9.out,if_pos ⟨HXF.out,by trivial,Or.inl h10⟩])
     clear h10
     have hrow2:=(HTX.out.ext ((Upto.refl [] _).alloc (.cells #[.string ⟨ta.toArray⟩] 9))).row
     rw [HLJ.out] at hrow2
     have hsrc2:=cells_at (l:=[sV ta]) (new_at w5 (.cells #[.string ⟨ta.toArray⟩] 9))
     go_wp2_with (at_builtin;refine wpList_app _ rfl (.tmp 45) (.tmp 47) 22 rfl 9 i0 (.string ⟨#[]⟩) 1 16 Tryz.underlying22 HI0.out HZ0.out HZ1'.out HZ2'.out rfl (by decide) (.slice va j vc) j _ rfl hrow2 ⟨w5.heap.size,0,none⟩ 1 1 [sV ta] rfl rfl hsrc2 (by simp [Value.oneCell',sV]) (by unfold maxLen;omega) (by omega) ?_;intro vb vd w12 ho hu hw;have HA:=Lib.hid ((HTX.out.ext ((Upto.refl [] _).alloc (.cells #[.string ⟨ta.toArray⟩] 9))).app HLJ.out ho hu hw);clear hrow2 hsrc2 ho hu hw)
     exact⟨⟨j+1,vb,vd,by omega,by simp,rfl,Lib.hid (by rw [take_app1 L9 j _ HY9.out];exact HA.out)⟩,by simp [intOf];omega⟩
   ·have hzz:(x==fr)=false:=by rw [beq_eq_false_iff_ne];exact hz
    have HY9:Hid (L9[j]?=some x):=Lib.hid (by rw [HQ9.out,if_neg (fun h2=>hz h2.1)])
    have HTX:=HT
    clear hz
    have hrow2:=(HTX.out.ext ((Upto.refl [] _).alloc (.cells #[.string ⟨x.toArray⟩] 9))).row
    rw [HLJ.out] at hrow2
    have hsrc2:=cells_at (l:=[sV x]) (new_at wr (.cells #[.string ⟨x.toArray⟩] 9))
    go_wp2_with (at_builtin;refine wpList_app _ rfl (.tmp 45) (.tmp 47) 22 rfl 9 i0 (.string ⟨#[]⟩) 1 16 Tryz.underlying22 HI0.out HZ0.out HZ1'.out HZ2'.out rfl (by decide) (.slice va j vc) j _ rfl hrow2 ⟨wr.heap.size,0,none⟩ 1 1 [sV x] rfl rfl hsrc2 (by simp [Value.oneCell',sV]) (by unfold maxLen;omega) (by omega) ?_;intro vb vd w12 ho hu hw;have HA:=Lib.hid ((HTX.out.ext ((Upto.refl [] _).alloc (.cells #[.string ⟨x.toArray⟩] 9))).app HLJ.out ho hu hw);clear hrow2 hsrc2 ho hu hw)
    exact⟨⟨j+1,vb,vd,by omega,by simp,rfl,Lib.hid (by rw [take_app1 L9 j _ HY9.out];exact HA.out)⟩,by simp [intOf];omega⟩
  ·obtain rfl:j=n1:=by omega
   have HTL:Hid (L9.take j=L9):=Lib.hid (by rw [←HL9.out.1,List.take_length])
   rw [HTL.out] at HT
   go_wp2_with fail
   refine (HBI.out _).mono ?_
   rintro e w4 ⟨rfl,hu4⟩
   have HT4:=Lib.hid (HT.out.ext hu4)
   have HB4:=Lib.hid (hu4.at HBR.out (by simp))
   have HU4:=Lib.hid (HU.out.trans_ext HT4.out.up)
   clear hu4 x0 x1 x2 x3 x4 x5 hj
   obtain⟨x0,x1,x2,x3,x4,x5⟩:=cells6 HB4.out
   go_wp2_with fail
   go_loopw [7,10,11] (fun s7 s k wr=>∃(i:Nat) (va2:Option Addr) (vc2:Nat) (c:Nat→Nat→Value),i≤n2∧k=.int .i64 i∧s=.slice va2 i vc2∧s7=.slice va j vc∧Hid (Upto [] w4 wr)∧Hid (AnRow (fun b=>(P b∧b<w.heap.size)∨W.heap.size≤b) w4 wr c (.slice va2 i vc2) ((l.take i).map (renF d fr ta)))) (fun _ _ k _=>n2-(intOf k).toNat)
   case atStart=>exact⟨0,none,0,fun _ _=>.bool false,by omega,rfl,rfl,rfl,Lib.hid (Upto.refl _ _),Lib.hid (by simpa using AnRow.nil _ _ _ _)⟩
   case round =>
    obtain⟨i,va2,vc2,c,hi,rfl,rfl,rfl,HUW,HRW⟩:=hrel
    have hi0:(0:Int)≤i:=by omega
    have HBW:=Lib.hid (HUW.out.at HB4.out (by simp))
    have HMI:Hid (((l.take i).map (renF d fr ta)).length=i):=Lib.hid (by rw [List.length_map,List.length_take,HN2.out];omega)
    clear x0 x1 x2 x3 x4 x5
    rcases Nat.lt_or_ge i n2 with hlt2 | hge2
    ·have hil:(i:Int)<n2:=by omega
     have x5:=cell_of HBW.out 5
     simp only [List.getElem?_toArray,List.getElem?_cons_zero,List.getElem?_cons_succ] at x5
     obtain⟨x,hx⟩:∃x,l[i]?=some x:=⟨l[i]'(by rw [HN2.out];omega),List.getElem?_eq_getElem _⟩
     obtain⟨g,o,xo,xa1,xn1,xc1,xs,xn,xm,xa2,xn2,xc2,hva2,d0,d1,d2,d3,d4,d5,hnx⟩:=HLS.out i x hx
     have hw:=HU4.out.trans_ext HUW.out
     replace d0:=up_cell hw d0
     replace d1:=up_cell hw d1
     replace d2:=up_cell hw d2
     replace d3:=up_cell hw d3
     replace d4:=up_cell hw d4
     replace d5:=up_cell hw d5
     have HXN:=Lib.hid (hnx.ext hw)
     have HXD:=Lib.hid (HKD.out x (List.mem_of_getElem? hx))
     have HTM:=Lib.hid (take_map (renF d fr ta) l i x hx)
     clear hnx hx hw
     subst hva2
     have HW8:Hid ((wr.alloc (.cells #[.int .i64 xo,.slice xa1 xn1 xc1,.int .i64 xs,.int .i64 xn,.int .i64 xm,.slice xa2 xn2 xc2] 25)).heap[w.heap.size]?=some (.cells #[.int .i64 op,.slice a1 j c1,.int .i64 so,.int .i64 nn,.int .i64 mm,.slice (some ⟨g,o,none⟩) n2 c2] 25 (0,0))):=Lib.hid (alloc_old HBW.out _)
     obtain⟨e0,e1,e2,e3,e4,e5⟩:=cells6 HW8.out
     go_wp2_with fail
     obtain⟨w18,hw18⟩:∃w18,w18=wr.alloc (.cells #[.int .i64 xo,.slice xa1 xn1 xc1,.int .i64 xs,.int .i64 xn,.int .i64 xm,.slice xa2 xn2 xc2] 25):=⟨_,rfl⟩
     have HV18:Hid (Upto [] wr w18):=Lib.hid (by rw [hw18];exact (Upto.refl [] wr).alloc _)
     have HX18:Hid (w18.heap[wr.heap.size]?=some (.cells #[.int .i64 xo,.slice xa1 xn1 xc1,.int .i64 xs,.int .i64 xn,.int .i64 xm,.slice xa2 xn2 xc2] 25 (0,0))):=Lib.hid (by rw [hw18];exact new_at wr _)
     have HB18:=Lib.hid (HV18.out.at HBW.out (by simp))
     simp only [←hw18]
     clear hw18 HW8 e0 e1 e2 e3 e4 e5 d0 d1 d2 d3 d4 d5 x5
     refine (HBI.out _).mono ?_
     rintro e w19 ⟨rfl,hu19⟩
     have HV19:=Lib.hid (HV18.out.trans_ext hu19)
     have HX19:=Lib.hid (hu19.at HX18.out (by simp))
     have HB19:=Lib.hid (hu19.at HB18.out (by simp))
     clear hu19
     obtain⟨y0,y1,y2,y3,y4,y5⟩:=cells6 HX19.out
     obtain⟨x0,x1,x2,x3,x4,x5⟩:=cells6 HB19.out
     have HCL:=Lib.hid (IHH.out x _ (fun b=>P b∧b<w.heap.size) w19 ⟨HXN.out.ext HV19.out,HXD.out.1,HXD.out.2.1,HXD.out.2.2⟩)
     go_wp2_with fail
     refine HCL.out.mono ?_
     rintro e w20 ⟨v20,rfl,hn20,hu20⟩
     obtain⟨ro,ra1,rn1,rc1,rs,rn,rm,ra2,rn2,rc2,rfl⟩:=hn20.six
     have HU20:=Lib.hid (HV19.out.trans_ext hu20)
     have HN20:Hid (NdV w20 (fun b=>((P b∧b<w.heap.size)∨W.heap.size≤b)∧(Value.slice va2 i vc2).ownBlock≠some b) (renF d fr ta x) (.agg #[.int .i64 ro,.slice ra1 rn1 rc1,.int .i64 rs,.int .i64 rn,.int .i64 rm,.slice ra2 rn2 rc2])):=Lib.hid (hn20.mono (fun b hb _=>⟨hb.imp (fun h2=>h2) (fun h2=>by have h1:=(HT4.out.up.trans_ext (HUW.out.trans_ext HV19.out)).size;unfold New at h2;omega),fun e=>by
      have h1:=HRW.out.own b e
      have h2:=own_ne HRW.out.row b e
      have h3:=HV19.out.size
      have h5:=HU4.out.size
      rcases hb with hb | hb
      ·omega
      ·unfold New at hb;omega⟩))
     clear hn20 hu20 x0 x1 x2 x3 x4 x5 y0 y1 y2 y3 y4 y5
     have HR20:=Lib.hid (HRW.out.ext (HU20.out.trans_ext ((Upto.refl [] w20).alloc (.cells #[.int .i64 ro,.slice ra1 rn1 rc1,.int .i64 rs,.int .i64 rn,.int .i64 rm,.slice ra2 rn2 rc2] 25))))
     have hrow2:=HR20.out.row
     rw [HMI.out] at hrow2
     have hsrc2:∀(j:Nat) (u:Value),([.int .i64 ro,.slice ra1 rn1 rc1,.int .i64 rs,.int .i64 rn,.int .i64 rm,.slice ra2 rn2 rc2]:List Value)[j]?=some u→(w20.alloc (.cells #[.int .i64 ro,.slice ra1 rn1 rc1,.int .i64 rs,.int .i64 rn,.int .i64 rm,.slice ra2 rn2 rc2] 25)).cell? ((⟨w20.heap.size,0,none⟩:Addr).add j)=some u:=cells_at (l:=[.int .i64 ro,.slice ra1 rn1 rc1,.int .i64 rs,.int .i64 rn,.int .i64 rm,.slice ra2 rn2 rc2]) (new_at w20 (.cells #[.int .i64 ro,.slice ra1 rn1 rc1,.int .i64 rs,.int .i64 rn,.int .i64 rm,.slice ra2 rn2 rc2] 25))
     go_wp2_with (at_builtin;refine wpList_app _ rfl (.tmp 113) (.tmp 118) 23 rfl 25 i1 (.agg #[.int .i64 0,.slice none 0 0,.int .i64 0,.int .i64 0,.int .i64 0,.slice none 0 0]) 6 80 Tryz.underlying23 HI1.out HY0.out HY1'.out HY2'.out rfl (by decide) (.slice va2 i vc2) i (cellsN c i) rfl hrow2 ⟨w20.heap.size,0,none⟩ 1 1 [.int .i64 ro,.slice ra1 rn1 rc1,.int .i64 rs,.int .i64 rn,.int .i64 rm,.slice ra2 rn2 rc2] rfl rfl hsrc2 (by simp [Value.oneCell']) (by unfold maxLen;omega) (by omega) ?_;intro vb vd w21 ho hu hw;have HA:=Lib.hid (AnRow.app HR20.out HMI.out (Nat.le_trans HUW.out.size (HU20.out.trans_ext ((Upto.refl [] w20).alloc (.cells #[.int .i64 ro,.slice ra1 rn1 rc1,.int .i64 rs,.int .i64 rn,.int .i64 rm,.slice ra2 rn2 rc2] 25))).size) (HN20.out.ext ((Upto.refl [] w20).alloc (.cells #[.int .i64 ro,.slice ra1 rn1 rc1,.int .i64 rs,.int .i64 rn,.int .i64 rm,.slice ra2 rn2 rc2] 25))) ho hu hw);have HU21:Hid (Upto [] w4 w21):=Lib.hid ((HUW.out.trans_ext (HU20.out.trans_ext ((Upto.refl [] w20).alloc (.cells #[.int .i64 ro,.slice ra1 rn1 rc1,.int .i64 rs,.int .i64 rn,.int .i64 rm,.slice ra2 rn2 rc2] 25)))).trans hu (fun k hk=>Or.inr (HR20.out.own k (Option.mem_toList.1 hk))));clear hrow2 hsrc2 ho hu hw)
     exact⟨⟨i+1,vb,vd,_,by omega,by simp,rfl,rfl,HU21,Lib.hid (by rw [HTM.out];exact HA.out)⟩,by simp [intOf];omega⟩
    ·obtain rfl:i=n2:=by omega
     have HTT:Hid (l.take i=l):=Lib.hid (by rw [←HN2.out,List.take_length])
     rw [HTT.out] at HRW
     have HNMS:=HT4
     obtain⟨x0,x1,x2,x3,x4,x5⟩:=cells6 HBW.out
     go_wp2_with fail
     refine (with51_calls op so nn mm _ _ _ _ _ _ _ _ _ _ _ _ wr).mono ?_
     rintro e w22 ⟨rfl,hu22⟩
     have HZ22:=Lib.hid ((HT4.out.up.trans_ext (HUW.out.trans_ext hu22)).at HB2.out (by simp))
     have HU22:=Lib.hid (HU4.out.trans_ext (HUW.out.trans_ext hu22))
     have HT22:=Lib.hid (HNMS.out.ext (HUW.out.trans_ext hu22))
     have HR22:=Lib.hid (HRW.out.ext hu22)
     clear hu22 x0 x1 x2 x3 x4 x5
     obtain⟨y0,y1,y2,y3,y4,y5⟩:=cells6 HZ22.out
     obtain⟨f0,f1,f2,f3,f4,f5⟩:=frees6 HZ22.out
     go_wp2_with fail
     clear y0 y1 y2 y3 y4 y5 f0 f1 f2 f3 f4 f5
     have hst:=nd_store HZ22.out (.int .i64 op) (.slice va j vc) (.int .i64 so) (.int .i64 nn) (.int .i64 mm) (.slice va2 i vc2)
     have hself:=nd_self w22 (w.heap.size+1) (.int .i64 op) (.slice va j vc) (.int .i64 so) (.int .i64 nn) (.int .i64 mm) (.slice va2 i vc2)
     have hup:=nd_up HU22.out (B:=w.heap.size+1) (Or.inr (by omega)) (.int .i64 op) (.slice va j vc) (.int .i64 so) (.int .i64 nn) (.int .i64 mm) (.slice va2 i vc2)
     have hnd:NdV w22 (fun b=>(P b∧b<w.heap.size)∨W.heap.size≤b) (.mk op L9 so nn mm (l.map (renF d fr ta))) (.agg #[.int .i64 op,.slice va j vc,.int .i64 so,.int .i64 nn,.int .i64 mm,.slice va2 i vc2]):=by
      unfold NdV
      refine⟨_,_,rfl,SlP.of_row HT22.out.row (fun g hg=>Or.inr (HT22.out.own g hg)),?_⟩
      exact HR22.out.list (fun b hb=>hb) (fun g hg=>Or.inr (Nat.le_trans HT4.out.up.size hg))
     have hnd2:=(hnd.upto hself (fun b hb _ hm=>by have h1:=HWZ.out;simp at hm;omega)).mono (Q:=fun b=>P b∨New w b) (fun b hb _=>hb.imp (fun h2=>h2.1) (fun h2=>by have h1:=HWZ.out;unfold New;omega))
     obtain⟨q0,q1,q2,q3,q4,q5⟩:=cells6 hst
     exact bodyPost_ret (v:=.agg #[.int .i64 op,.slice va j vc,.int .i64 so,.int .i64 nn,.int .i64 mm,.slice va2 i vc2]) (by simp [results,Tryz.results17,go_sem,q0,q1,q2,q3,q4,q5]) rfl ⟨_,rfl,hnd2,hup⟩
set_option maxRecDepth 100000 in
set_option maxHeartbeats 25600000 in
theorem rr_shut_calls (d:Nat) (fr ta:List UInt8) (hta:nameF ta=true)
  (IH:∀(fr ta:List UInt8),nameF ta=true→∀(x:Nd) (v:Value) (P:Nat→Prop) (u:World),RrIn u d P x v→Calls Tryz.prog 17 #[v,.string ⟨fr.toArray⟩,.string ⟨ta.toArray⟩] u (RrPost P u (renF d fr ta x)))
  (op so nn mm:Int) (nms:List (List UInt8)) (l:List Nd) (b:List UInt8) (x:Nd) (hnm:nms=[b]) (hlx:l=[x]) (v:Value) (P:Nat→Prop) (w:World) (hb:bindsF op nms.length=true) (hbf:b=fr) (h:RrIn w (d+1) P (.mk op nms so nn mm l) v) :
  Calls Tryz.prog 17 #[v,.string ⟨fr.toArray⟩,.string ⟨ta.toArray⟩] w (RrPost P w (renF (d+1) fr ta (.mk op nms so nn mm l))):=by
 have HGO:Hid (renF (d+1) fr ta (.mk op nms so nn mm l)=.mk op nms so nn mm l):=Lib.hid (by
  subst hnm hlx
  rw [renF_one _ _ _ _ _ _ _ _ _ hb,if_pos hbf])
 rw [HGO.out]
 have hbb:(b==fr)=true:=by rw [hbf];exact beq_self_eq_true fr
 clear hbf
 have HKD:Hid (∀x∈l,depthF x≤d∧formF nameF x=0∧nmsF x+sizeF x+2≤8000):=Lib.hid (fun x hx=>⟨by
  have h1:=depths_mem hx
  have h2:=h.deep
  simp only [depthF] at h2
  omega,forms_iff.1 (form_iff.1 h.form).2.2.2.2.2 x hx,by
  have h1:=nmss_mem hx
  have h2:=sizesF_mem hx
  have h3:=h.few
  simp only [nmsF,sizeF] at h3
  omega⟩)
 have h0:=h.nd.mono (Q:=fun b=>P b∧b<w.heap.size) (fun b hb hl=>⟨hb,hl.lt⟩)
 have HND:=Lib.hid h0
 obtain⟨a1,c1,a2,c2,rfl,hs,hls⟩:=h0.open
 have HS:=Lib.hid hs
 have HLS:=Lib.hid hls
 have hln:nms.length≤8000:=by have h3:=h.few;simp only [nmsF] at h3;omega
 have hll:l.length≤8000:=by have h1:=sizes_len l;have h3:=h.few;simp only [sizeF] at h3;omega
 have HLE:Hid (nms.length≤8000∧l.length≤8000):=Lib.hid ⟨hln,hll⟩
 have HBI:Hid (∀u,Calls Tryz.prog 48 #[.agg #[.int .i64 op,.slice a1 nms.length c1,.int .i64 so,.int .i64 nn,.int .i64 mm,.slice a2 l.length c2]] u fun e w'=>e=.returned (.bool true)∧Upto [] u w'):=Lib.hid (fun u=>by
  have hg:=(good_of _ h.form).1
  unfold goodN at hg
  have:=bindsR_calls op a1 nms.length c1 so nn mm a2 l.length c2 u (fun h2=>hg.1 (Or.inr h2))
  rw [hb] at this
  exact this)
 have IHH:=Lib.hid IH
 have hl1:nms.length=1:=by rw [hnm];rfl
 have hl2:l.length=1:=by rw [hlx];rfl
 have HN1:Hid (nms.length=1):=Lib.hid hl1
 have HN2:Hid (l.length=1):=Lib.hid hl2
 have HNM:=Lib.hid (And.intro hnm hlx)
 have HTA:=Lib.hid hta
 rw [hl1,hl2] at HBI HND
 rw [hl1] at HS
 rw [hl1,hl2]
 have HL9:Hid (nms.length=1∧∀j x,nms[j]?=some x→nms[j]?=some (if x=fr∧true=false∧(op≠10∨0<j) then ta else x)):=Lib.hid ⟨hl1,fun j x hx=>by rw [hx,if_neg (by simp)]⟩
 clear hs hls h IH hln hll hb h0 hl1 hl2 hnm hlx hta HLE
 obtain⟨i0,hi0,hz0,hz1,hz2⟩:=info9'
 have HI0:=Lib.hid hi0
 have HZ0:=Lib.hid hz0
 have HZ1':=Lib.hid hz1
 have HZ2':=Lib.hid hz2
 obtain⟨i1,hi1,hy0,hy1,hy2⟩:=info54'
 have HI1:=Lib.hid hi1
 have HY0:=Lib.hid hy0
 have HY1':=Lib.hid hy1
 have HY2':=Lib.hid hy2
 clear hi0 hz0 hz1 hz2 hi1 hy0 hy1 hy2
 obtain⟨W,hW⟩:∃W,W=(w.alloc (.cells #[.int .i64 op,.slice a1 1 c1,.int .i64 so,.int .i64 nn,.int .i64 mm,.slice a2 1 c2] 25)).alloc (.cells #[.int .i64 0,.slice none 0 0,.int .i64 0,.int .i64 0,.int .i64 0,.slice none 0 0] 25):=⟨_,rfl⟩
 have HU:Hid (Upto [] w W):=Lib.hid (by rw [hW];exact ((Upto.refl [] w).alloc _).alloc _)
 have HB1:Hid (W.heap[w.heap.size]?=some (.cells #[.int .i64 op,.slice a1 1 c1,.int .i64 so,.int .i64 nn,.int .i64 mm,.slice a2 1 c2] 25 (0,0))):=Lib.hid (by rw [hW];exact alloc_old (new_at w _) _)
 have HB2:Hid (W.heap[w.heap.size+1]?=some (.cells #[.int .i64 0,.slice none 0 0,.int .i64 0,.int .i64 0,.int .i64 0,.slice none 0 0] 25 (0,0))):=Lib.hid (by rw [hW];exact new_at1 w _ _)
 have HWZ:Hid (w.heap.size+1<W.heap.size):=Lib.hid (lt_of_heap HB2.out)
 have x1:=cell_of HB1.out 1
 simp only [List.getElem?_toArray,List.getElem?_cons_zero,List.getElem?_cons_succ] at x1
 go_enter Tryz.func17,Tryz.ntmps17
 go_wp2_with fail
 simp only [←hW]
 clear hW
 go_wp2_with fail
 go_loopw [7,8] (fun s i wr=>∃(j:Nat) (va:Option Addr) (vc:Nat),j≤1∧i=.int .i64 j∧s=.slice va j vc∧Hid (TxI W (nms.take j) (.slice va j vc) wr)) (fun _ i _=>1-(intOf i).toNat)
 case atStart=>exact⟨0,none,0,by omega,rfl,rfl,Lib.hid (by simpa using TxI.nil W W (Upto.refl _ _))⟩
 case round =>
  obtain⟨j,va,vc,hj,rfl,rfl,HT⟩:=hrel
  have hj0:(0:Int)≤j:=by omega
  have HBR:=Lib.hid (HT.out.up.at HB1.out (by simp))
  clear x1
  obtain⟨x0,x1,x2,x3,x4,x5⟩:=cells6 HBR.out
  rcases Nat.lt_or_ge j 1 with hlt | hge
  ·have hjl:(j:Int)<1:=by omega
   obtain⟨x,hx⟩:∃x,nms[j]?=some x:=⟨nms[j]'(by rw [HN1.out];omega),List.getElem?_eq_getElem _⟩
   obtain⟨g9,o9,hva1,hcell⟩:=slp_cell HS.out HN1.out j x hx
   have hc0:=hcell wr (HU.out.trans_ext HT.out.up)
   have HQ9:=Lib.hid (HL9.out.2 j x hx)
   have HLJ:Hid ((nms.take j).length=j):=Lib.hid (by rw [List.length_take,HL9.out.1];omega)
   clear hx hcell
   subst hva1
   by_cases hz:x=fr
   ·have hzz:(x==fr)=true:=by rw [hz];exact beq_self_eq_true fr
    have HXF:=Lib.hid hz
    clear hz
    go_wp2_with fail
    refine (HBI.out _).mono ?_
    rintro e w5 ⟨rfl,hu5⟩
    have HTX:=Lib.hid (HT.out.ext hu5)
    have HBQ:=Lib.hid (hu5.at HBR.out (by simp))
    clear hu5 x0 x1 x2 x3 x4 x5 hc0
    obtain⟨x0,x1,x2,x3,x4,x5⟩:=cells6 HBQ.out
    have HY9:Hid (nms[j]?=some x):=Lib.hid (by rw [HQ9.out,if_neg (by simp)])
    have hrow2:=(HTX.out.ext ((Upto.refl [] _).alloc (.cells #[.string ⟨x.toArray⟩] 9))).row
    rw [HLJ.out] at hrow2
    have hsrc2:=cells_at (l:=[sV x]) (new_at w5 (.cells #[.string ⟨x.toArray⟩] 9))
    go_wp2_with (at_builtin;refine wpList_app _ rfl (.tmp 45) (.tmp 47) 22 rfl 9 i0 (.string ⟨#[]⟩) 1 16 Tryz.underlying22 HI0.out HZ0.out HZ1'.out HZ2'.out rfl (by decide) (.slice va j vc) j _ rfl hrow2 ⟨w5.heap.size,0,none⟩ 1 1 [sV x] rfl rfl hsrc2 (by simp [Value.oneCell',sV]) (by unfold maxLen;omega) (by omega) ?_;intro vb vd w12 ho hu hw;have HA:=Lib.hid ((HTX.out.ext ((Upto.refl [] _).alloc (.cells #[.string ⟨x.toArray⟩] 9))).app HLJ.out ho hu hw);clear hrow2 hsrc2 ho hu hw)
    exact⟨⟨j+1,vb,vd,by omega,by simp,rfl,Lib.hid (by rw [take_app1 nms j _ HY9.out];exact HA.out)⟩,by simp [intOf];omega⟩
   ·have hzz:(x==fr)=false:=by rw [beq_eq_false_iff_ne];exact hz
    have HY9:Hid (nms[j]?=some x):=Lib.hid (by rw [HQ9.out,if_neg (fun h2=>hz h2.1)])
    have HTX:=HT
    clear hz
    have hrow2:=(HTX.out.ext ((Upto.refl [] _).alloc (.cells #[.string ⟨x.toArray⟩] 9))).row
    rw [HLJ.out] at hrow2
    have hsrc2:=cells_at (l:=[sV x]) (new_at wr (.cells #[.string ⟨x.toArray⟩] 9))
    go_wp2_with (at_builtin;refine wpList_app _ rfl (.tmp 45) (.tmp 47) 22 rfl 9 i0 (.string ⟨#[]⟩) 1 16 Tryz.underlying22 HI0.out HZ0.out HZ1'.out HZ2'.out rfl (by decide) (.slice va j vc) j _ rfl hrow2 ⟨wr.heap.size,0,none⟩ 1 1 [sV x] rfl rfl hsrc2 (by simp [Value.oneCell',sV]) (by unfold maxLen;omega) (by omega) ?_;intro vb vd w12 ho hu hw;have HA:=Lib.hid ((HTX.out.ext ((Upto.refl [] _).alloc (.cells #[.string ⟨x.toArray⟩] 9))).app HLJ.out ho hu hw);clear hrow2 hsrc2 ho hu hw)
    exact⟨⟨j+1,vb,vd,by omega,by simp,rfl,Lib.hid (by rw [take_app1 nms j _ HY9.out];exact HA.out)⟩,by simp [intOf];omega⟩
  ·obtain rfl:j=1:=by omega
   have HTL:Hid (nms.take 1=nms):=Lib.hid (by rw [←HN1.out,List.take_length])
   rw [HTL.out] at HT
   go_wp2_with fail
   refine (HBI.out _).mono ?_
   rintro e w4 ⟨rfl,hu4⟩
   have HT4:=Lib.hid (HT.out.ext hu4)
   have HB4:=Lib.hid (hu4.at HBR.out (by simp))
   have HU4:=Lib.hid (HU.out.trans_ext HT4.out.up)
   have HZ4:=Lib.hid (HT4.out.up.at HB2.out (by simp))
   obtain⟨g1,o1,hva1,hcell⟩:=slp_cell HS.out HN1.out 0 b (by rw [HNM.out.1];rfl)
   have hc4:=hcell w4 HU4.out
   rw [Nat.add_zero] at hc4
   have HCB:=Lib.hid hcell
   clear hcell hu4 x0 x1 x2 x3 x4 x5 hj
   subst hva1
   obtain⟨x0,x1,x2,x3,x4,x5⟩:=cells6 HB4.out
   obtain⟨y0,y1,y2,y3,y4,y5⟩:=cells6 HZ4.out
   obtain⟨f0,f1,f2,f3,f4,f5⟩:=frees6 HZ4.out
   go_wp2_with fail
   clear x0 x1 x2 x3 x4 x5 y0 y1 y2 y3 y4 y5 f0 f1 f2 f3 f4 f5
   have hst:=nd_store HZ4.out (.int .i64 op) (.slice (some ⟨g1,o1,none⟩) 1 c1) (.int .i64 so) (.int .i64 nn) (.int .i64 mm) (.slice a2 1 c2)
   have hself:=nd_self w4 (w.heap.size+1) (.int .i64 op) (.slice (some ⟨g1,o1,none⟩) 1 c1) (.int .i64 so) (.int .i64 nn) (.int .i64 mm) (.slice a2 1 c2)
   have hup:=nd_up HU4.out (B:=w.heap.size+1) (Or.inr (by omega)) (.int .i64 op) (.slice (some ⟨g1,o1,none⟩) 1 c1) (.int .i64 so) (.int .i64 nn) (.int .i64 mm) (.slice a2 1 c2)
   have hnd:=((HND.out.ext HU4.out).upto hself (fun b hb _ hm=>by simp at hm;omega)).mono (Q:=fun b=>P b∨New w b) (fun b hb _=>Or.inl hb.1)
   obtain⟨q0,q1,q2,q3,q4,q5⟩:=cells6 hst
   exact bodyPost_ret (v:=.agg #[.int .i64 op,.slice (some ⟨g1,o1,none⟩) 1 c1,.int .i64 so,.int .i64 nn,.int .i64 mm,.slice a2 1 c2]) (by simp [results,Tryz.results17,go_sem,q0,q1,q2,q3,q4,q5]) rfl ⟨_,rfl,hnd,hup⟩
set_option maxRecDepth 100000 in
set_option maxHeartbeats 25600000 in
theorem rr_pass_calls (d:Nat) (fr ta:List UInt8) (hta:nameF ta=true)
  (IH:∀(fr ta:List UInt8),nameF ta=true→∀(x:Nd) (v:Value) (P:Nat→Prop) (u:World),RrIn u d P x v→Calls Tryz.prog 17 #[v,.string ⟨fr.toArray⟩,.string ⟨ta.toArray⟩] u (RrPost P u (renF d fr ta x)))
  (op so nn mm:Int) (nms:List (List UInt8)) (l:List Nd) (b:List UInt8) (x:Nd) (hnm:nms=[b]) (hlx:l=[x]) (v:Value) (P:Nat→Prop) (w:World) (hb:bindsF op nms.length=true) (hbf:¬b=fr) (hcp:¬(b=ta∧(freeR x).contains fr=true)) (h:RrIn w (d+1) P (.mk op nms so nn mm l) v) :
  Calls Tryz.prog 17 #[v,.string ⟨fr.toArray⟩,.string ⟨ta.toArray⟩] w (RrPost P w (renF (d+1) fr ta (.mk op nms so nn mm l))):=by
 have HGO:Hid (renF (d+1) fr ta (.mk op nms so nn mm l)=.mk op nms so nn mm [renF d fr ta x]):=Lib.hid (by
  subst hnm hlx
  rw [renF_one _ _ _ _ _ _ _ _ _ hb,if_neg hbf,if_neg hcp])
 rw [HGO.out]
 have hbb:(b==fr)=false:=by rw [beq_eq_false_iff_ne];exact hbf
 have HBF:=Lib.hid hbf
 have HCP:=Lib.hid hcp
 clear hbf hcp
 have HKD:Hid (∀x∈l,depthF x≤d∧formF nameF x=0∧nmsF x+sizeF x+2≤8000):=Lib.hid (fun x hx=>⟨by
  have h1:=depths_mem hx
  have h2:=h.deep
  simp only [depthF] at h2
  omega,forms_iff.1 (form_iff.1 h.form).2.2.2.2.2 x hx,by
  have h1:=nmss_mem hx
  have h2:=sizesF_mem hx
  have h3:=h.few
  simp only [nmsF,sizeF] at h3
  omega⟩)
 have h0:=h.nd.mono (Q:=fun b=>P b∧b<w.heap.size) (fun b hb hl=>⟨hb,hl.lt⟩)
 have HND:=Lib.hid h0
 obtain⟨a1,c1,a2,c2,rfl,hs,hls⟩:=h0.open
 have HS:=Lib.hid hs
 have HLS:=Lib.hid hls
 have hln:nms.length≤8000:=by have h3:=h.few;simp only [nmsF] at h3;omega
 have hll:l.length≤8000:=by have h1:=sizes_len l;have h3:=h.few;simp only [sizeF] at h3;omega
 have HLE:Hid (nms.length≤8000∧l.length≤8000):=Lib.hid ⟨hln,hll⟩
 have HBI:Hid (∀u,Calls Tryz.prog 48 #[.agg #[.int .i64 op,.slice a1 nms.length c1,.int .i64 so,.int .i64 nn,.int .i64 mm,.slice a2 l.length c2]] u fun e w'=>e=.returned (.bool true)∧Upto [] u w'):=Lib.hid (fun u=>by
  have hg:=(good_of _ h.form).1
  unfold goodN at hg
  have:=bindsR_calls op a1 nms.length c1 so nn mm a2 l.length c2 u (fun h2=>hg.1 (Or.inr h2))
  rw [hb] at this
  exact this)
 have IHH:=Lib.hid IH
 have hl1:nms.length=1:=by rw [hnm];rfl
 have hl2:l.length=1:=by rw [hlx];rfl
 have HN1:Hid (nms.length=1):=Lib.hid hl1
 have HN2:Hid (l.length=1):=Lib.hid hl2
 have HNM:=Lib.hid (And.intro hnm hlx)
 have HTA:=Lib.hid hta
 rw [hl1,hl2] at HBI HND
 rw [hl1] at HS
 rw [hl1,hl2]
 have HL9:Hid (nms.length=1∧∀j x,nms[j]?=some x→nms[j]?=some (if x=fr∧true=false∧(op≠10∨0<j) then ta else x)):=Lib.hid ⟨hl1,fun j x hx=>by rw [hx,if_neg (by simp)]⟩
 clear hs hls h IH hln hll hb h0 hl1 hl2 hnm hlx hta HLE
 obtain⟨i0,hi0,hz0,hz1,hz2⟩:=info9'
 have HI0:=Lib.hid hi0
 have HZ0:=Lib.hid hz0
 have HZ1':=Lib.hid hz1
 have HZ2':=Lib.hid hz2
 obtain⟨i1,hi1,hy0,hy1,hy2⟩:=info54'
 have HI1:=Lib.hid hi1
 have HY0:=Lib.hid hy0
 have HY1':=Lib.hid hy1
 have HY2':=Lib.hid hy2
 clear hi0 hz0 hz1 hz2 hi1 hy0 hy1 hy2
 obtain⟨W,hW⟩:∃W,W=(w.alloc (.cells #[.int .i64 op,.slice a1 1 c1,.int .i64 so,.int .i64 nn,.int .i64 mm,.slice a2 1 c2] 25)).alloc (.cells #[.int .i64 0,.slice none 0 0,.int .i64 0,.int .i64 0,.int .i64 0,.slice none 0 0] 25):=⟨_,rfl⟩
 have HU:Hid (Upto [] w W):=Lib.hid (by rw [hW];exact ((Upto.refl [] w).alloc _).alloc _)
 have HB1:Hid (W.heap[w.heap.size]?=some (.cells #[.int .i64 op,.slice a1 1 c1,.int .i64 so,.int .i64 nn,.int .i64 mm,.slice a2 1 c2] 25 (0,0))):=Lib.hid (by rw [hW];exact alloc_old (new_at w _) _)
 have HB2:Hid (W.heap[w.heap.size+1]?=some (.cells #[.int .i64 0,.slice none 0 0,.int .i64 0,.int .i64 0,.int .i64 0,.slice none 0 0] 25 (0,0))):=Lib.hid (by rw [hW];exact new_at1 w _ _)
 have HWZ:Hid (w.heap.size+1<W.heap.size):=Lib.hid (lt_of_heap HB2.out)
 have x1:=cell_of HB1.out 1
 simp only [List.getElem?_toArray,List.getElem?_cons_zero,List.getElem?_cons_succ] at x1
 go_enter Tryz.func17,Tryz.ntmps17
 go_wp2_with fail
 simp only [←hW]
 clear hW
 go_wp2_with fail
 go_loopw [7,8] (fun s i wr=>∃(j:Nat) (va:Option Addr) (vc:Nat),j≤1∧i=.int .i64 j∧s=.slice va j vc∧Hid (TxI W (nms.take j) (.slice va j vc) wr)) (fun _ i _=>1-(intOf i).toNat)
 case atStart=>exact⟨0,none,0,by omega,rfl,rfl,Lib.hid (by simpa using TxI.nil W W (Upto.refl _ _))⟩
 case round =>
  obtain⟨j,va,vc,hj,rfl,rfl,HT⟩:=hrel
  have hj0:(0:Int)≤j:=by omega
  have HBR:=Lib.hid (HT.out.up.at HB1.out (by simp))
  clear x1
  obtain⟨x0,x1,x2,x3,x4,x5⟩:=cells6 HBR.out
  rcases Nat.lt_or_ge j 1 with hlt | hge
  ·have hjl:(j:Int)<1:=by omega
   obtain⟨x,hx⟩:∃x,nms[j]?=some x:=⟨nms[j]'(by rw [HN1.out];omega),List.getElem?_eq_getElem _⟩
   obtain⟨g9,o9,hva1,hcell⟩:=slp_cell HS.out HN1.out j x hx
   have hc0:=hcell wr (HU.out.trans_ext HT.out.up)
   have HQ9:=Lib.hid (HL9.out.2 j x hx)
   have HLJ:Hid ((nms.take j).length=j):=Lib.hid (by rw [List.length_take,HL9.out.1];omega)
   clear hx hcell
   subst hva1
   by_cases hz:x=fr
   ·have hzz:(x==fr)=true:=by rw [hz];exact beq_self_eq_true fr
    have HXF:=Lib.hid hz
    clear hz
    go_wp2_with fail
    refine (HBI.out _).mono ?_
    rintro e w5 ⟨rfl,hu5⟩
    have HTX:=Lib.hid (HT.out.ext hu5)
    have HBQ:=Lib.hid (hu5.at HBR.out (by simp))
    clear hu5 x0 x1 x2 x3 x4 x5 hc0
    obtain⟨x0,x1,x2,x3,x4,x5⟩:=cells6 HBQ.out
    have HY9:Hid (nms[j]?=some x):=Lib.hid (by rw [HQ9.out,if_neg (by simp)])
    have hrow2:=(HTX.out.ext ((Upto.refl [] _).alloc (.cells #[.string ⟨x.toArray⟩] 9))).row
    rw [HLJ.out] at hrow2
    have hsrc2:=cells_at (l:=[sV x]) (new_at w5 (.cells #[.string ⟨x.toArray⟩] 9))
    go_wp2_with (at_builtin;refine wpList_app _ rfl (.tmp 45) (.tmp 47) 22 rfl 9 i0 (.string ⟨#[]⟩) 1 16 Tryz.underlying22 HI0.out HZ0.out HZ1'.out HZ2'.out rfl (by decide) (.slice va j vc) j _ rfl hrow2 ⟨w5.heap.size,0,none⟩ 1 1 [sV x] rfl rfl hsrc2 (by simp [Value.oneCell',sV]) (by unfold maxLen;omega) (by omega) ?_;intro vb vd w12 ho hu hw;have HA:=Lib.hid ((HTX.out.ext ((Upto.refl [] _).alloc (.cells #[.string ⟨x.toArray⟩] 9))).app HLJ.out ho hu hw);clear hrow2 hsrc2 ho hu hw)
    exact⟨⟨j+1,vb,vd,by omega,by simp,rfl,Lib.hid (by rw [take_app1 nms j _ HY9.out];exact HA.out)⟩,by simp [intOf];omega⟩
   ·have hzz:(x==fr)=false:=by rw [beq_eq_false_iff_ne];exact hz
    have HY9:Hid (nms[j]?=some x):=Lib.hid (by rw [HQ9.out,if_neg (fun h2=>hz h2.1)])
    have HTX:=HT
    clear hz
    have hrow2:=(HTX.out.ext ((Upto.refl [] _).alloc (.cells #[.string ⟨x.toArray⟩] 9))).row
    rw [HLJ.out] at hrow2
    have hsrc2:=cells_at (l:=[sV x]) (new_at wr (.cells #[.string ⟨x.toArray⟩] 9))
    go_wp2_with (at_builtin;refine wpList_app _ rfl (.tmp 45) (.tmp 47) 22 rfl 9 i0 (.string ⟨#[]⟩) 1 16 Tryz.underlying22 HI0.out HZ0.out HZ1'.out HZ2'.out rfl (by decide) (.slice va j vc) j _ rfl hrow2 ⟨wr.heap.size,0,none⟩ 1 1 [sV x] rfl rfl hsrc2 (by simp [Value.oneCell',sV]) (by unfold maxLen;omega) (by omega) ?_;intro vb vd w12 ho hu hw;have HA:=Lib.hid ((HTX.out.ext ((Upto.refl [] _).alloc (.cells #[.string ⟨x.toArray⟩] 9))).app HLJ.out ho hu hw);clear hrow2 hsrc2 ho hu hw)
    exact⟨⟨j+1,vb,vd,by omega,by simp,rfl,Lib.hid (by rw [take_app1 nms j _ HY9.out];exact HA.out)⟩,by simp [intOf];omega⟩
  ·obtain rfl:j=1:=by omega
   have HTL:Hid (nms.take 1=nms):=Lib.hid (by rw [←HN1.out,List.take_length])
   rw [HTL.out] at HT
   go_wp2_with fail
   refine (HBI.out _).mono ?_
   rintro e w4 ⟨rfl,hu4⟩
   have HT4:=Lib.hid (HT.out.ext hu4)
   have HB4:=Lib.hid (hu4.at HBR.out (by simp))
   have HU4:=Lib.hid (HU.out.trans_ext HT4.out.up)
   have HZ4:=Lib.hid (HT4.out.up.at HB2.out (by simp))
   obtain⟨g1,o1,hva1,hcell⟩:=slp_cell HS.out HN1.out 0 b (by rw [HNM.out.1];rfl)
   have hc4:=hcell w4 HU4.out
   rw [Nat.add_zero] at hc4
   have HCB:=Lib.hid hcell
   clear hcell hu4 x0 x1 x2 x3 x4 x5 hj
   subst hva1
   obtain⟨x0,x1,x2,x3,x4,x5⟩:=cells6 HB4.out
   go_wp2_with fail
   go_loopw [7,10,11] (fun s7 s k wr=>∃(i:Nat) (va2:Option Addr) (vc2:Nat) (c:Nat→Nat→Value),i≤1∧k=.int .i64 i∧s=.slice va2 i vc2∧s7=.slice va 1 vc∧Hid (Upto [] w4 wr)∧Hid (AnRow (fun b=>(P b∧b<w.heap.size)∨W.heap.size≤b) w4 wr c (.slice va2 i vc2) ([renF d fr ta x].take i))) (fun _ _ k _=>1-(intOf k).toNat)
   case atStart=>exact⟨0,none,0,fun _ _=>.bool false,by omega,rfl,rfl,rfl,Lib.hid (Upto.refl _ _),Lib.hid (by simpa using AnRow.nil _ _ _ _)⟩
   case round =>
    obtain⟨i,va2,vc2,c,hi,rfl,rfl,rfl,HUW,HRW⟩:=hrel
    have hi0:(0:Int)≤i:=by omega
    have HBW:=Lib.hid (HUW.out.at HB4.out (by simp))
    have HMI:Hid (([renF d fr ta x].take i).length=i):=Lib.hid (by rw [List.length_take];simp;omega)
    clear x0 x1 x2 x3 x4 x5 hc4
    rcases Nat.lt_or_ge i 1 with hlt2 | hge2
    ·have hil:(i:Int)<1:=by omega
     have HI00:Hid (i=0):=Lib.hid (by omega)
     have HTM:Hid ([renF d fr ta x].take (i+1)=[renF d fr ta x].take i++[renF d fr ta x]):=Lib.hid (by rw [HI00.out];rfl)
     have x5:=cell_of HBW.out 5
     simp only [List.getElem?_toArray,List.getElem?_cons_zero,List.getElem?_cons_succ] at x5
     have hx:l[i]?=some x:=by rw [HNM.out.2,HI00.out];rfl
     obtain⟨g,o,xo,xa1,xn1,xc1,xs,xn,xm,xa2,xn2,xc2,hva2,d0,d1,d2,d3,d4,d5,hnx⟩:=HLS.out i x hx
     have hw:=HU4.out.trans_ext HUW.out
     replace d0:=up_cell hw d0
     replace d1:=up_cell hw d1
     replace d2:=up_cell hw d2
     replace d3:=up_cell hw d3
     replace d4:=up_cell hw d4
     replace d5:=up_cell hw d5
     have HXN:=Lib.hid (hnx.ext hw)
     have HXD:=Lib.hid (HKD.out x (List.mem_of_getElem? hx))
     clear hnx hx hw
     subst hva2
     have HW8:Hid ((wr.alloc (.cells #[.int .i64 xo,.slice xa1 xn1 xc1,.int .i64 xs,.int .i64 xn,.int .i64 xm,.slice xa2 xn2 xc2] 25)).heap[w.heap.size]?=some (.cells #[.int .i64 op,.slice (some ⟨g1,o1,none⟩) 1 c1,.int .i64 so,.int .i64 nn,.int .i64 mm,.slice (some ⟨g,o,none⟩) 1 c2] 25 (0,0))):=Lib.hid (alloc_old HBW.out _)
     obtain⟨e0,e1,e2,e3,e4,e5⟩:=cells6 HW8.out
     go_wp2_with fail
     obtain⟨w18,hw18⟩:∃w18,w18=wr.alloc (.cells #[.int .i64 xo,.slice xa1 xn1 xc1,.int .i64 xs,.int .i64 xn,.int .i64 xm,.slice xa2 xn2 xc2] 25):=⟨_,rfl⟩
     have HV18:Hid (Upto [] wr w18):=Lib.hid (by rw [hw18];exact (Upto.refl [] wr).alloc _)
     have HX18:Hid (w18.heap[wr.heap.size]?=some (.cells #[.int .i64 xo,.slice xa1 xn1 xc1,.int .i64 xs,.int .i64 xn,.int .i64 xm,.slice xa2 xn2 xc2] 25 (0,0))):=Lib.hid (by rw [hw18];exact new_at wr _)
     have HB18:=Lib.hid (HV18.out.at HBW.out (by simp))
     simp only [←hw18]
     clear hw18 HW8 e0 e1 e2 e3 e4 e5 d0 d1 d2 d3 d4 d5 x5
     refine (HBI.out _).mono ?_
     rintro e w19 ⟨rfl,hu19⟩
     have HV19:=Lib.hid (HV18.out.trans_ext hu19)
     have HX19:=Lib.hid (hu19.at HX18.out (by simp))
     have HB19:=Lib.hid (hu19.at HB18.out (by simp))
     clear hu19
     obtain⟨y0,y1,y2,y3,y4,y5⟩:=cells6 HX19.out
     obtain⟨x0,x1,x2,x3,x4,x5⟩:=cells6 HB19.out
     have hcq:=HCB.out w19 (HU4.out.trans_ext (HUW.out.trans_ext HV19.out))
     rw [Nat.add_zero] at hcq
     by_cases hbt:b=ta
     ·have hbt1:(b==ta)=true:=by rw [hbt];exact beq_self_eq_true ta
      have hne0:(fr==ta)=false:=by rw [beq_eq_false_iff_ne,←hbt];exact fun e=>HBF.out e.symm
      have hne:(fr != ta)=true:=by rw [bne,hne0];rfl
      have HCF:Hid ((freeR x).contains fr=false):=Lib.hid (by
       cases hc:(freeR x).contains fr with
       | false=>rfl
       | true=>exact absurd ⟨hbt,hc⟩ HCP.out)
      clear hbt
      have HFL:Hid ((freeR x).length≤8000):=Lib.hid (by have h1:=freeR_len x;have h2:=HXD.out.2.2;omega)
      have HFC:=Lib.hid (freeRef_calls 8000 x (by have:=HXD.out.2.2;omega) (by omega) (good_of x HXD.out.2.1).1 (by have:=HXD.out.2.2;omega) _ w19 _ (HXN.out.ext HV19.out))
      go_wp2_with fail
      refine HFC.out.mono ?_
      rintro e wa ⟨va9,rfl,hr9⟩
      have HHC:=Lib.hid (hasR_calls (freeR x) fr va9 wa _ hr9.slp (by have:=HFL.out;omega))
      have HVL:=Lib.hid (HV19.out.trans_ext hr9.up)
      have HXL:=Lib.hid (hr9.up.at HX19.out (by simp))
      clear hr9 x0 x1 x2 x3 x4 x5 y0 y1 y2 y3 y4 y5
      obtain⟨y0,y1,y2,y3,y4,y5⟩:=cells6 HXL.out
      obtain⟨x0,x1,x2,x3,x4,x5⟩:=cells6 HXL.out
      go_wp2_with fail
      refine HHC.out.mono ?_
      rintro e wb ⟨rfl,rfl⟩
      rw [HCF.out]
      have HCL:=Lib.hid (IHH.out fr ta HTA.out x _ (fun b=>P b∧b<w.heap.size) wb ⟨HXN.out.ext HVL.out,HXD.out.1,HXD.out.2.1,HXD.out.2.2⟩)
      go_wp2_with fail
      refine HCL.out.mono ?_
      rintro e w20 ⟨v20,rfl,hn20,hu20⟩
      obtain⟨ro,ra1,rn1,rc1,rs,rn,rm,ra2,rn2,rc2,rfl⟩:=hn20.six
      have HU20:=Lib.hid (HVL.out.trans_ext hu20)
      have HN20:Hid (NdV w20 (fun b=>((P b∧b<w.heap.size)∨W.heap.size≤b)∧(Value.slice va2 i vc2).ownBlock≠some b) (renF d fr ta x) (.agg #[.int .i64 ro,.slice ra1 rn1 rc1,.int .i64 rs,.int .i64 rn,.int .i64 rm,.slice ra2 rn2 rc2])):=Lib.hid (hn20.mono (fun b hb _=>⟨hb.imp (fun h2=>h2) (fun h2=>by have h1:=(HT4.out.up.trans_ext (HUW.out.trans_ext HVL.out)).size;unfold New at h2;omega),fun e=>by
       have h1:=HRW.out.own b e
       have h2:=own_ne HRW.out.row b e
       have h3:=HVL.out.size
       have h5:=HU4.out.size
       rcases hb with hb | hb
       ·omega
       ·unfold New at hb;omega⟩))
      clear hn20 hu20 x0 x1 x2 x3 x4 x5 y0 y1 y2 y3 y4 y5 hcq
      have HR20:=Lib.hid (HRW.out.ext (HU20.out.trans_ext ((Upto.refl [] w20).alloc (.cells #[.int .i64 ro,.slice ra1 rn1 rc1,.int .i64 rs,.int .i64 rn,.int .i64 rm,.slice ra2 rn2 rc2] 25))))
      have hrow2:=HR20.out.row
      rw [HMI.out] at hrow2
      have hsrc2:∀(j:Nat) (u:Value),([.int .i64 ro,.slice ra1 rn1 rc1,.int .i64 rs,.int .i64 rn,.int .i64 rm,.slice ra2 rn2 rc2]:List Value)[j]?=some u→(w20.alloc (.cells #[.int .i64 ro,.slice ra1 rn1 rc1,.int .i64 rs,.int .i64 rn,.int .i64 rm,.slice ra2 rn2 rc2] 25)).cell? ((⟨w20.heap.size,0,none⟩:Addr).add j)=some u:=cells_at (l:=[.int .i64 ro,.slice ra1 rn1 rc1,.int .i64 rs,.int .i64 rn,.int .i64 rm,.slice ra2 rn2 rc2]) (new_at w20 (.cells #[.int .i64 ro,.slice ra1 rn1 rc1,.int .i64 rs,.int .i64 rn,.int .i64 rm,.slice ra2 rn2 rc2] 25))
      go_wp2_with (at_builtin;refine wpList_app _ rfl (.tmp 113) (.tmp 118) 23 rfl 25 i1 (.agg #[.int .i64 0,.slice none 0 0,.int .i64 0,.int .i64 0,.int .i64 0,.slice none 0 0]) 6 80 Tryz.underlying23 HI1.out HY0.out HY1'.out HY2'.out rfl (by decide) (.slice va2 i vc2) i (cellsN c i) rfl hrow2 ⟨w20.heap.size,0,none⟩ 1 1 [.int .i64 ro,.slice ra1 rn1 rc1,.int .i64 rs,.int .i64 rn,.int .i64 rm,.slice ra2 rn2 rc2] rfl rfl hsrc2 (by simp [Value.oneCell']) (by unfold maxLen;omega) (by omega) ?_;intro vb vd w21 ho hu hw;have HA:=Lib.hid (AnRow.app HR20.out HMI.out (Nat.le_trans HUW.out.size (HU20.out.trans_ext ((Upto.refl [] w20).alloc (.cells #[.int .i64 ro,.slice ra1 rn1 rc1,.int .i64 rs,.int .i64 rn,.int .i64 rm,.slice ra2 rn2 rc2] 25))).size) (HN20.out.ext ((Upto.refl [] w20).alloc (.cells #[.int .i64 ro,.slice ra1 rn1 rc1,.int .i64 rs,.int .i64 rn,.int .i64 rm,.slice ra2 rn2 rc2] 25))) ho hu hw);have HU21:Hid (Upto [] w4 w21):=Lib.hid ((HUW.out.trans_ext (HU20.out.trans_ext ((Upto.refl [] w20).alloc (.cells #[.int .i64 ro,.slice ra1 rn1 rc1,.int .i64 rs,.int .i64 rn,.int .i64 rm,.slice ra2 rn2 rc2] 25)))).trans hu (fun k hk=>Or.inr (HR20.out.own k (Option.mem_toList.1 hk))));clear hrow2 hsrc2 ho hu hw)
      exact⟨⟨i+1,vb,vd,_,by omega,by simp,rfl,rfl,HU21,Lib.hid (by rw [HTM.out];exact HA.out)⟩,by simp [intOf];omega⟩
     ·have hbt1:(b==ta)=false:=by rw [beq_eq_false_iff_ne];exact hbt
      clear hbt
      have HVL:=HV19
      have HCL:=Lib.hid (IHH.out fr ta HTA.out x _ (fun b=>P b∧b<w.heap.size) w19 ⟨HXN.out.ext HVL.out,HXD.out.1,HXD.out.2.1,HXD.out.2.2⟩)
      go_wp2_with fail
      refine HCL.out.mono ?_
      rintro e w20 ⟨v20,rfl,hn20,hu20⟩
      obtain⟨ro,ra1,rn1,rc1,rs,rn,rm,ra2,rn2,rc2,rfl⟩:=hn20.six
      have HU20:=Lib.hid (HVL.out.trans_ext hu20)
      have HN20:Hid (NdV w20 (fun b=>((P b∧b<w.heap.size)∨W.heap.size≤b)∧(Value.slice va2 i vc2).ownBlock≠some b) (renF d fr ta x) (.agg #[.int .i64 ro,.slice ra1 rn1 rc1,.int .i64 rs,.int .i64 rn,.int .i64 rm,.slice ra2 rn2 rc2])):=Lib.hid (hn20.mono (fun b hb _=>⟨hb.imp (fun h2=>h2) (fun h2=>by have h1:=(HT4.out.up.trans_ext (HUW.out.trans_ext HVL.out)).size;unfold New at h2;omega),fun e=>by
       have h1:=HRW.out.own b e
       have h2:=own_ne HRW.out.row b e
       have h3:=HVL.out.size
       have h5:=HU4.out.size
       rcases hb with hb | hb
       ·omega
       ·unfold New at hb;omega⟩))
      clear hn20 hu20 x0 x1 x2 x3 x4 x5 y0 y1 y2 y3 y4 y5 hcq
      have HR20:=Lib.hid (HRW.out.ext (HU20.out.trans_ext ((Upto.refl [] w20).alloc (.cells #[.int .i64 ro,.slice ra1 rn1 rc1,.int .i64 rs,.int .i64 rn,.int .i64 rm,.slice ra2 rn2 rc2] 25))))
      have hrow2:=HR20.out.row
      rw [HMI.out] at hrow2
      have hsrc2:∀(j:Nat) (u:Value),([.int .i64 ro,.slice ra1 rn1 rc1,.int .i64 rs,.int .i64 rn,.int .i64 rm,.slice ra2 rn2 rc2]:List Value)[j]?=some u→(w20.alloc (.cells #[.int .i64 ro,.slice ra1 rn1 rc1,.int .i64 rs,.int .i64 rn,.int .i64 rm,.slice ra2 rn2 rc2] 25)).cell? ((⟨w20.heap.size,0,none⟩:Addr).add j)=some u:=cells_at (l:=[.int .i64 ro,.slice ra1 rn1 rc1,.int .i64 rs,.int .i64 rn,.int .i64 rm,.slice ra2 rn2 rc2]) (new_at w20 (.cells #[.int .i64 ro,.slice ra1 rn1 rc1,.int .i64 rs,.int .i64 rn,.int .i64 rm,.slice ra2 rn2 rc2] 25))
      go_wp2_with (at_builtin;refine wpList_app _ rfl (.tmp 113) (.tmp 118) 23 rfl 25 i1 (.agg #[.int .i64 0,.slice none 0 0,.int .i64 0,.int .i64 0,.int .i64 0,.slice none 0 0]) 6 80 Tryz.underlying23 HI1.out HY0.out HY1'.out HY2'.out rfl (by decide) (.slice va2 i vc2) i (cellsN c i) rfl hrow2 ⟨w20.heap.size,0,none⟩ 1 1 [.int .i64 ro,.slice ra1 rn1 rc1,.int .i64 rs,.int .i64 rn,.int .i64 rm,.slice ra2 rn2 rc2] rfl rfl hsrc2 (by simp [Value.oneCell']) (by unfold maxLen;omega) (by omega) ?_;intro vb vd w21 ho hu hw;have HA:=Lib.hid (AnRow.app HR20.out HMI.out (Nat.le_trans HUW.out.size (HU20.out.trans_ext ((Upto.refl [] w20).alloc (.cells #[.int .i64 ro,.slice ra1 rn1 rc1,.int .i64 rs,.int .i64 rn,.int .i64 rm,.slice ra2 rn2 rc2] 25))).size) (HN20.out.ext ((Upto.refl [] w20).alloc (.cells #[.int .i64 ro,.slice ra1 rn1 rc1,.int .i64 rs,.int .i64 rn,.int .i64 rm,.slice ra2 rn2 rc2] 25))) ho hu hw);have HU21:Hid (Upto [] w4 w21):=Lib.hid ((HUW.out.trans_ext (HU20.out.trans_ext ((Upto.refl [] w20).alloc (.cells #[.int .i64 ro,.slice ra1 rn1 rc1,.int .i64 rs,.int .i64 rn,.int .i64 rm,.slice ra2 rn2 rc2] 25)))).trans hu (fun k hk=>Or.inr (HR20.out.own k (Option.mem_toList.1 hk))));clear hrow2 hsrc2 ho hu hw)
      exact⟨⟨i+1,vb,vd,_,by omega,by simp,rfl,rfl,HU21,Lib.hid (by rw [HTM.out];exact HA.out)⟩,by simp [intOf];omega⟩
    ·obtain rfl:i=1:=by omega
     have HTT:Hid ([renF d fr ta x].take 1=[renF d fr ta x]):=Lib.hid rfl
     rw [HTT.out] at HRW
     have HNMS:=HT4
     obtain⟨x0,x1,x2,x3,x4,x5⟩:=cells6 HBW.out
     go_wp2_with fail
     refine (with51_calls op so nn mm _ _ _ _ _ _ _ _ _ _ _ _ wr).mono ?_
     rintro e w22 ⟨rfl,hu22⟩
     have HZ22:=Lib.hid ((HT4.out.up.trans_ext (HUW.out.trans_ext hu22)).at HB2.out (by simp))
     have HU22:=Lib.hid (HU4.out.trans_ext (HUW.out.trans_ext hu22))
     have HT22:=Lib.hid (HNMS.out.ext (HUW.out.trans_ext hu22))
     have HR22:=Lib.hid (HRW.out.ext hu22)
     clear hu22 x0 x1 x2 x3 x4 x5
     obtain⟨y0,y1,y2,y3,y4,y5⟩:=cells6 HZ22.out
     obtain⟨f0,f1,f2,f3,f4,f5⟩:=frees6 HZ22.out
     go_wp2_with fail
     clear y0 y1 y2 y3 y4 y5 f0 f1 f2 f3 f4 f5
     have hst:=nd_store HZ22.out (.int .i64 op) (.slice va 1 vc) (.int .i64 so) (.int .i64 nn) (.int .i64 mm) (.slice va2 1 vc2)
     have hself:=nd_self w22 (w.heap.size+1) (.int .i64 op) (.slice va 1 vc) (.int .i64 so) (.int .i64 nn) (.int .i64 mm) (.slice va2 1 vc2)
     have hup:=nd_up HU22.out (B:=w.heap.size+1) (Or.inr (by omega)) (.int .i64 op) (.slice va 1 vc) (.int .i64 so) (.int .i64 nn) (.int .i64 mm) (.slice va2 1 vc2)
     have hnd:NdV w22 (fun b=>(P b∧b<w.heap.size)∨W.heap.size≤b) (.mk op nms so nn mm [renF d fr ta x]) (.agg #[.int .i64 op,.slice va 1 vc,.int .i64 so,.int .i64 nn,.int .i64 mm,.slice va2 1 vc2]):=by
      unfold NdV
      refine⟨_,_,rfl,by have h9:=SlP.of_row HT22.out.row (P:=(fun b=>(P b∧b<w.heap.size)∨W.heap.size≤b)) (fun g hg=>Or.inr (HT22.out.own g hg));exact h9,?_⟩
      exact HR22.out.list (fun b hb=>hb) (fun g hg=>Or.inr (Nat.le_trans HT4.out.up.size hg))
     have hnd2:=(hnd.upto hself (fun b hb _ hm=>by have h1:=HWZ.out;simp at hm;omega)).mono (Q:=fun b=>P b∨New w b) (fun b hb _=>hb.imp (fun h2=>h2.1) (fun h2=>by have h1:=HWZ.out;unfold New;omega))
     obtain⟨q0,q1,q2,q3,q4,q5⟩:=cells6 hst
     exact bodyPost_ret (v:=.agg #[.int .i64 op,.slice va 1 vc,.int .i64 so,.int .i64 nn,.int .i64 mm,.slice va2 1 vc2]) (by simp [results,Tryz.results17,go_sem,q0,q1,q2,q3,q4,q5]) rfl ⟨_,rfl,hnd2,hup⟩
theorem opq_appsT {P:Program} (w:World) {o:Oper} {ac:Act} {post:Value→World→Prop} (s x:Operand) (t:TypeId) (ho:o.op=.call { callee:=.builtin .append,args:=#[s,x],argTypes:=#[t,t] })
  (e:TypeId) (i:TypeInfo) (z:Value) (bytes:Nat) (ht:P.underlying t=some (.slice e)) (hi:P.info? e=some i) (hz:i.zero=some z)
  (hsize:i.size=1) (hby:i.bytes=bytes) (hzs:z.cells.size=1)
  (b:Nat) (hs:ac.eval s=.slice (some ⟨b,0,none⟩) 0 0) (hbk:w.heap[b]?=some (.cells #[] e (0,0)))
  (y:Value) (news:List Value) (n:Nat) (hn:news.length=n) (hx:ac.eval x=y) (hnews:SlC w y news)
  (h63:n≤maxLen) (hbytes:n*bytes≤140737488355328)
  (h:∀b' c' w',Upto [] w w'→w'.ownsRow 0 e 1 (.slice b' n c') n news→(∀g,(Value.slice b' n c').ownBlock=some g→(g=b∨w.heap.size≤g)∧g<w'.heap.size)→post (.slice b' n c') w') :
  opqUpon P post ((execOp ac.eval o).run P w):=by
 subst hn
 have hzero:news=[]→(∃a c,y=.slice a 0 c)→opqUpon P post ((execOp ac.eval o).run P w):=by
  rintro rfl ⟨a,c,rfl⟩
  have hr:(Builtin.append_ #[t,t] o.type #[.slice (some ⟨b,0,none⟩) 0 0,.slice a 0 c]).run P w=.ok (.slice (some ⟨b,0,none⟩) 0 0) w:=by
   cases a<;>simp [Builtin.append_,run_underlying ht,sizeOf,typeInfo,hi,Builtin.lenOf,Builtin.firstCells,loadCells,loadCellsFrom,storeCells]
  simp only [execOp,ho,resolve,invoke,builtin,Sem.run_bind,Sem.run_pure,Result.andThen_ok,List.map_toArray,List.map_cons,List.map_nil,hs,hx,hr]
  refine h _ _ w (Upto.refl _ _) ⟨rfl,Or.inr ⟨b,0,#[],rfl,Nat.zero_le _,hbk,Nat.le_refl _,by decide,rfl,rfl⟩⟩ (fun g hg=>?_)
  simp [Value.ownBlock] at hg
  subst hg
  exact⟨Or.inl rfl,lt_of_heap hbk⟩
 rcases hnews with⟨h0,a,c,h2⟩ | ⟨g,off,c,h2,hc⟩
 ·exact hzero h0 ⟨a,c,h2⟩
 ·cases news with
  | nil=>exact hzero rfl ⟨_,_,h2⟩
  | cons u us =>
   obtain⟨v',w',hr,hrow,hgr⟩:=run_append_arg_grows (P:=P) w t o.type e i z 1 bytes ht hi hz hsize hby hzs (by decide) ⟨b,0,none⟩ 0 0 [] rfl (by simp) ⟨g,off,none⟩ (u::us).length c (u::us) (by simp) (fun j u hj=>by simpa [Addr.add_lit] using hc j u hj) (by simp) (by simpa using h63) (by simpa using hbytes)
   simp only [execOp,ho,resolve,invoke,builtin,Sem.run_bind,Sem.run_pure,Result.andThen_ok,List.map_toArray,List.map_cons,List.map_nil,hs,hx,h2,hr]
   rcases hrow.2 with⟨-,h0⟩ | ⟨g',cap,cur,rfl,hge,hh,hnc,h7,h8,htk⟩
   ·simp at h0
   ·rw [Nat.zero_add] at htk hrow ⊢
    refine h _ _ w' ((Upto.refl [] w).grown hgr (fun k e=>by cases e)) ⟨by simp,Or.inr ⟨g',cap,cur,rfl,Nat.zero_le _,hh,by simpa using hnc,h7,h8,by simpa using htk⟩⟩ (fun q hq=>?_)
    simp [Value.ownBlock] at hq
    subst hq
    exact⟨Or.inr hge,lt_of_heap hh⟩
theorem slp_one {w:World} {P:Nat→Prop} {B:Nat} {s:List UInt8} {ls:List (List UInt8)} (h:w.heap[B]?=some (.cells #[.string ⟨s.toArray⟩] 9 (0,0))) (hP:P B) (hl:ls=[s]):SlP w P (.slice (some ⟨B,0,none⟩) 1 1) 1 (ls.map sV):=by
 subst hl
 refine Or.inr ⟨B,0,1,rfl,⟨hP,⟨_,_,_,h⟩,Nat.le_refl _⟩,fun j u hj=>?_⟩
 rw [cell_of h,Nat.zero_add]
 cases j with
 | zero=>simpa [sV] using hj
 | succ j=>simp at hj
set_option maxRecDepth 100000 in
set_option maxHeartbeats 25600000 in
theorem rr_take_calls (d:Nat) (fr ta:List UInt8) (hta:nameF ta=true)
  (IH:∀(fr ta:List UInt8),nameF ta=true→∀(x:Nd) (v:Value) (P:Nat→Prop) (u:World),RrIn u d P x v→Calls Tryz.prog 17 #[v,.string ⟨fr.toArray⟩,.string ⟨ta.toArray⟩] u (RrPost P u (renF d fr ta x)))
  (op so nn mm:Int) (nms:List (List UInt8)) (l:List Nd) (b:List UInt8) (x:Nd) (hnm:nms=[b]) (hlx:l=[x]) (v:Value) (P:Nat→Prop) (w:World) (hb:bindsF op nms.length=true) (hbf:¬b=fr) (hbt:b=ta) (hcp:(freeR x).contains fr=true) (h:RrIn w (d+1) P (.mk op nms so nn mm l) v) :
  Calls Tryz.prog 17 #[v,.string ⟨fr.toArray⟩,.string ⟨ta.toArray⟩] w (RrPost P w (renF (d+1) fr ta (.mk op nms so nn mm l))):=by
 have HGO:Hid (renF (d+1) fr ta (.mk op nms so nn mm l)=.mk op [capName fr ta x] so nn mm [renF d fr ta (renF d ta (capName fr ta x) x)]):=Lib.hid (by
  subst hnm hlx
  rw [renF_one _ _ _ _ _ _ _ _ _ hb,if_neg hbf,if_pos ⟨hbt,hcp⟩])
 rw [HGO.out]
 have hbb:(b==fr)=false:=by rw [beq_eq_false_iff_ne];exact hbf
 have hbt1:(b==ta)=true:=by rw [hbt];exact beq_self_eq_true ta
 have hne0:(fr==ta)=false:=by rw [beq_eq_false_iff_ne,←hbt];exact fun e=>hbf e.symm
 have hne:(fr != ta)=true:=by rw [bne,hne0];rfl
 have HCP:=Lib.hid hcp
 clear hbf hbt hcp
 have HKD:Hid (∀x∈l,depthF x≤d∧formF nameF x=0∧nmsF x+sizeF x+2≤8000):=Lib.hid (fun x hx=>⟨by
  have h1:=depths_mem hx
  have h2:=h.deep
  simp only [depthF] at h2
  omega,forms_iff.1 (form_iff.1 h.form).2.2.2.2.2 x hx,by
  have h1:=nmss_mem hx
  have h2:=sizesF_mem hx
  have h3:=h.few
  simp only [nmsF,sizeF] at h3
  omega⟩)
 have h0:=h.nd.mono (Q:=fun b=>P b∧b<w.heap.size) (fun b hb hl=>⟨hb,hl.lt⟩)
 have HND:=Lib.hid h0
 obtain⟨a1,c1,a2,c2,rfl,hs,hls⟩:=h0.open
 have HS:=Lib.hid hs
 have HLS:=Lib.hid hls
 have hln:nms.length≤8000:=by have h3:=h.few;simp only [nmsF] at h3;omega
 have hll:l.length≤8000:=by have h1:=sizes_len l;have h3:=h.few;simp only [sizeF] at h3;omega
 have HLE:Hid (nms.length≤8000∧l.length≤8000):=Lib.hid ⟨hln,hll⟩
 have HBI:Hid (∀u,Calls Tryz.prog 48 #[.agg #[.int .i64 op,.slice a1 nms.length c1,.int .i64 so,.int .i64 nn,.int .i64 mm,.slice a2 l.length c2]] u fun e w'=>e=.returned (.bool true)∧Upto [] u w'):=Lib.hid (fun u=>by
  have hg:=(good_of _ h.form).1
  unfold goodN at hg
  have:=bindsR_calls op a1 nms.length c1 so nn mm a2 l.length c2 u (fun h2=>hg.1 (Or.inr h2))
  rw [hb] at this
  exact this)
 have IHH:=Lib.hid IH
 have hl1:nms.length=1:=by rw [hnm];rfl
 have hl2:l.length=1:=by rw [hlx];rfl
 have HN1:Hid (nms.length=1):=Lib.hid hl1
 have HN2:Hid (l.length=1):=Lib.hid hl2
 have HNM:=Lib.hid (And.intro hnm hlx)
 have HTA:=Lib.hid hta
 obtain⟨k1,k2,k3⟩:=HKD.out x (by rw [hlx];simp)
 have HCN:Hid (nameF (capName fr ta x)=true∧capName fr ta x=freshG ta (freeR x++boundR x++[fr,ta])∧(freeR x++boundR x++[fr,ta]).length≤8000):=Lib.hid (by
  have hcl:(freeR x++boundR x++[fr,ta]).length≤8000:=by
   have:=cap_list_len fr ta x k3
   rw [free_same,bound_same] at this
   exact this
  exact⟨(freshG_not hta hcl).2,rfl,hcl⟩)
 have HRS:Hid (depthF (renF d ta (capName fr ta x) x)≤d∧formF nameF (renF d ta (capName fr ta x) x)=0∧nmsF (renF d ta (capName fr ta x) x)+sizeF (renF d ta (capName fr ta x) x)+2≤8000):=Lib.hid (by
  have ho:=one_of x k2
  obtain⟨i1,i2,i3,i4⟩:=ren_shape d ta (capName fr ta x) x ho
  exact⟨by omega,form_ren d ta (capName fr ta x) x ho k3 HCN.out.1 k2,by omega⟩)
 clear k1 k2 k3
 obtain⟨CAP,hCAP⟩:∃CAP,CAP=capName fr ta x:=⟨_,rfl⟩
 rw [←hCAP] at HCN HRS
 rw [←hCAP]
 clear hCAP
 rw [hl1,hl2] at HBI HND
 rw [hl1] at HS
 rw [hl1,hl2]
 have HL9:Hid (nms.length=1∧∀j x,nms[j]?=some x→nms[j]?=some (if x=fr∧true=false∧(op≠10∨0<j) then ta else x)):=Lib.hid ⟨hl1,fun j x hx=>by rw [hx,if_neg (by simp)]⟩
 clear hs hls h IH hln hll hb h0 hl1 hl2 hnm hlx hta HLE
 obtain⟨i0,hi0,hz0,hz1,hz2⟩:=info9'
 have HI0:=Lib.hid hi0
 have HZ0:=Lib.hid hz0
 have HZ1':=Lib.hid hz1
 have HZ2':=Lib.hid hz2
 obtain⟨i1,hi1,hy0,hy1,hy2⟩:=info54'
 have HI1:=Lib.hid hi1
 have HY0:=Lib.hid hy0
 have HY1':=Lib.hid hy1
 have HY2':=Lib.hid hy2
 clear hi0 hz0 hz1 hz2 hi1 hy0 hy1 hy2
 obtain⟨W,hW⟩:∃W,W=(w.alloc (.cells #[.int .i64 op,.slice a1 1 c1,.int .i64 so,.int .i64 nn,.int .i64 mm,.slice a2 1 c2] 25)).alloc (.cells #[.int .i64 0,.slice none 0 0,.int .i64 0,.int .i64 0,.int .i64 0,.slice none 0 0] 25):=⟨_,rfl⟩
 have HU:Hid (Upto [] w W):=Lib.hid (by rw [hW];exact ((Upto.refl [] w).alloc _).alloc _)
 have HB1:Hid (W.heap[w.heap.size]?=some (.cells #[.int .i64 op,.slice a1 1 c1,.int .i64 so,.int .i64 nn,.int .i64 mm,.slice a2 1 c2] 25 (0,0))):=Lib.hid (by rw [hW];exact alloc_old (new_at w _) _)
 have HB2:Hid (W.heap[w.heap.size+1]?=some (.cells #[.int .i64 0,.slice none 0 0,.int .i64 0,.int .i64 0,.int .i64 0,.slice none 0 0] 25 (0,0))):=Lib.hid (by rw [hW];exact new_at1 w _ _)
 have HWZ:Hid (w.heap.size+1<W.heap.size):=Lib.hid (lt_of_heap HB2.out)
 have x1:=cell_of HB1.out 1
 simp only [List.getElem?_toArray,List.getElem?_cons_zero,List.getElem?_cons_succ] at x1
 go_enter Tryz.func17,Tryz.ntmps17
 go_wp2_with fail
 simp only [←hW]
 clear hW
 go_wp2_with fail
 go_loopw [7,8] (fun s i wr=>∃(j:Nat) (va:Option Addr) (vc:Nat),j≤1∧i=.int .i64 j∧s=.slice va j vc∧Hid (TxI W (nms.take j) (.slice va j vc) wr)) (fun _ i _=>1-(intOf i).toNat)
 case atStart=>exact⟨0,none,0,by omega,rfl,rfl,Lib.hid (by simpa using TxI.nil W W (Upto.refl _ _))⟩
 case round =>
  obtain⟨j,va,vc,hj,rfl,rfl,HT⟩:=hrel
  have hj0:(0:Int)≤j:=by omega
  have HBR:=Lib.hid (HT.out.up.at HB1.out (by simp))
  clear x1
  obtain⟨x0,x1,x2,x3,x4,x5⟩:=cells6 HBR.out
  rcases Nat.lt_or_ge j 1 with hlt | hge
  ·have hjl:(j:Int)<1:=by omega
   obtain⟨x,hx⟩:∃x,nms[j]?=some x:=⟨nms[j]'(by rw [HN1.out];omega),List.getElem?_eq_getElem _⟩
   obtain⟨g9,o9,hva1,hcell⟩:=slp_cell HS.out HN1.out j x hx
   have hc0:=hcell wr (HU.out.trans_ext HT.out.up)
   have HQ9:=Lib.hid (HL9.out.2 j x hx)
   have HLJ:Hid ((nms.take j).length=j):=Lib.hid (by rw [List.length_take,HL9.out.1];omega)
   clear hx hcell
   subst hva1
   by_cases hz:x=fr
   ·have hzz:(x==fr)=true:=by rw [hz];exact beq_self_eq_true fr
    have HXF:=Lib.hid hz
    clear hz
    go_wp2_with fail
    refine (HBI.out _).mono ?_
    rintro e w5 ⟨rfl,hu5⟩
    have HTX:=Lib.hid (HT.out.ext hu5)
    have HBQ:=Lib.hid (hu5.at HBR.out (by simp))
    clear hu5 x0 x1 x2 x3 x4 x5 hc0
    obtain⟨x0,x1,x2,x3,x4,x5⟩:=cells6 HBQ.out
    have HY9:Hid (nms[j]?=some x):=Lib.hid (by rw [HQ9.out,if_neg (by simp)])
    have hrow2:=(HTX.out.ext ((Upto.refl [] _).alloc (.cells #[.string ⟨x.toArray⟩] 9))).row
    rw [HLJ.out] at hrow2
    have hsrc2:=cells_at (l:=[sV x]) (new_at w5 (.cells #[.string ⟨x.toArray⟩] 9))
    go_wp2_with (at_builtin;refine wpList_app _ rfl (.tmp 45) (.tmp 47) 22 rfl 9 i0 (.string ⟨#[]⟩) 1 16 Tryz.underlying22 HI0.out HZ0.out HZ1'.out HZ2'.out rfl (by decide) (.slice va j vc) j _ rfl hrow2 ⟨w5.heap.size,0,none⟩ 1 1 [sV x] rfl rfl hsrc2 (by simp [Value.oneCell',sV]) (by unfold maxLen;omega) (by omega) ?_;intro vb vd w12 ho hu hw;have HA:=Lib.hid ((HTX.out.ext ((Upto.refl [] _).alloc (.cells #[.string ⟨x.toArray⟩] 9))).app HLJ.out ho hu hw);clear hrow2 hsrc2 ho hu hw)
    exact⟨⟨j+1,vb,vd,by omega,by simp,rfl,Lib.hid (by rw [take_app1 nms j _ HY9.out];exact HA.out)⟩,by simp [intOf];omega⟩
   ·have hzz:(x==fr)=false:=by rw [beq_eq_false_iff_ne];exact hz
    have HY9:Hid (nms[j]?=some x):=Lib.hid (by rw [HQ9.out,if_neg (fun h2=>hz h2.1)])
    have HTX:=HT
    clear hz
    have hrow2:=(HTX.out.ext ((Upto.refl [] _).alloc (.cells #[.string ⟨x.toArray⟩] 9))).row
    rw [HLJ.out] at hrow2
    have hsrc2:=cells_at (l:=[sV x]) (new_at wr (.cells #[.string ⟨x.toArray⟩] 9))
    go_wp2_with (at_builtin;refine wpList_app _ rfl (.tmp 45) (.tmp 47) 22 rfl 9 i0 (.string ⟨#[]⟩) 1 16 Tryz.underlying22 HI0.out HZ0.out HZ1'.out HZ2'.out rfl (by decide) (.slice va j vc) j _ rfl hrow2 ⟨wr.heap.size,0,none⟩ 1 1 [sV x] rfl rfl hsrc2 (by simp [Value.oneCell',sV]) (by unfold maxLen;omega) (by omega) ?_;intro vb vd w12 ho hu hw;have HA:=Lib.hid ((HTX.out.ext ((Upto.refl [] _).alloc (.cells #[.string ⟨x.toArray⟩] 9))).app HLJ.out ho hu hw);clear hrow2 hsrc2 ho hu hw)
    exact⟨⟨j+1,vb,vd,by omega,by simp,rfl,Lib.hid (by rw [take_app1 nms j _ HY9.out];exact HA.out)⟩,by simp [intOf];omega⟩
  ·obtain rfl:j=1:=by omega
   have HTL:Hid (nms.take 1=nms):=Lib.hid (by rw [←HN1.out,List.take_length])
   rw [HTL.out] at HT
   go_wp2_with fail
   refine (HBI.out _).mono ?_
   rintro e w4 ⟨rfl,hu4⟩
   have HT4:=Lib.hid (HT.out.ext hu4)
   have HB4:=Lib.hid (hu4.at HBR.out (by simp))
   have HU4:=Lib.hid (HU.out.trans_ext HT4.out.up)
   have HZ4:=Lib.hid (HT4.out.up.at HB2.out (by simp))
   obtain⟨g1,o1,hva1,hcell⟩:=slp_cell HS.out HN1.out 0 b (by rw [HNM.out.1];rfl)
   have hc4:=hcell w4 HU4.out
   rw [Nat.add_zero] at hc4
   have HCB:=Lib.hid hcell
   clear hcell hu4 x0 x1 x2 x3 x4 x5 hj
   subst hva1
   obtain⟨x0,x1,x2,x3,x4,x5⟩:=cells6 HB4.out
   go_wp2_with fail
   go_loopw [7,10,11] (fun s7 s k wr=>∃(i:Nat) (va2:Option Addr) (vc2:Nat) (c:Nat→Nat→Value) (na:Option Addr) (nc:Nat),i≤1∧k=.int .i64 i∧s=.slice va2 i vc2∧s7=.slice na 1 nc∧Hid (SlP wr (fun b=>(P b∧b<w.heap.size)∨W.heap.size≤b) (.slice na 1 nc) 1 ((if i=0 then nms else [CAP]).map sV))∧Hid (Upto [] w4 wr)∧Hid (AnRow (fun b=>(P b∧b<w.heap.size)∨W.heap.size≤b) w4 wr c (.slice va2 i vc2) ([renF d fr ta (renF d ta CAP x)].take i))) (fun _ _ k _=>1-(intOf k).toNat)
   case atStart=>exact⟨0,none,0,fun _ _=>.bool false,va,vc,by omega,rfl,rfl,rfl,Lib.hid (by
    have h9:=SlP.of_row HT4.out.row (P:=(fun b=>(P b∧b<w.heap.size)∨W.heap.size≤b)) (fun g hg=>Or.inr (HT4.out.own g hg))
    rw [HN1.out] at h9
    exact h9),Lib.hid (Upto.refl _ _),Lib.hid (by simpa using AnRow.nil _ _ _ _)⟩
   case round =>
    obtain⟨i,va2,vc2,c,na,nc,hi,rfl,rfl,rfl,HSN,HUW,HRW⟩:=hrel
    have hi0:(0:Int)≤i:=by omega
    have HBW:=Lib.hid (HUW.out.at HB4.out (by simp))
    have HMI:Hid (([renF d fr ta (renF d ta CAP x)].take i).length=i):=Lib.hid (by rw [List.length_take];simp;omega)
    clear x0 x1 x2 x3 x4 x5 hc4
    rcases Nat.lt_or_ge i 1 with hlt2 | hge2
    ·have hil:(i:Int)<1:=by omega
     have HI00:Hid (i=0):=Lib.hid (by omega)
     have HTM:Hid ([renF d fr ta (renF d ta CAP x)].take (i+1)=[renF d fr ta (renF d ta CAP x)].take i++[renF d fr ta (renF d ta CAP x)]):=Lib.hid (by rw [HI00.out];rfl)
     have x5:=cell_of HBW.out 5
     simp only [List.getElem?_toArray,List.getElem?_cons_zero,List.getElem?_cons_succ] at x5
     have hx:l[i]?=some x:=by rw [HNM.out.2,HI00.out];rfl
     obtain⟨g,o,xo,xa1,xn1,xc1,xs,xn,xm,xa2,xn2,xc2,hva2,d0,d1,d2,d3,d4,d5,hnx⟩:=HLS.out i x hx
     have hw:=HU4.out.trans_ext HUW.out
     replace d0:=up_cell hw d0
     replace d1:=up_cell hw d1
     replace d2:=up_cell hw d2
     replace d3:=up_cell hw d3
     replace d4:=up_cell hw d4
     replace d5:=up_cell hw d5
     have HXN:=Lib.hid (hnx.ext hw)
     have HXD:=Lib.hid (HKD.out x (List.mem_of_getElem? hx))
     clear hnx hx hw
     subst hva2
     have HW8:Hid ((wr.alloc (.cells #[.int .i64 xo,.slice xa1 xn1 xc1,.int .i64 xs,.int .i64 xn,.int .i64 xm,.slice xa2 xn2 xc2] 25)).heap[w.heap.size]?=some (.cells #[.int .i64 op,.slice (some ⟨g1,o1,none⟩) 1 c1,.int .i64 so,.int .i64 nn,.int .i64 mm,.slice (some ⟨g,o,none⟩) 1 c2] 25 (0,0))):=Lib.hid (alloc_old HBW.out _)
     obtain⟨e0,e1,e2,e3,e4,e5⟩:=cells6 HW8.out
     go_wp2_with fail
     obtain⟨w18,hw18⟩:∃w18,w18=wr.alloc (.cells #[.int .i64 xo,.slice xa1 xn1 xc1,.int .i64 xs,.int .i64 xn,.int .i64 xm,.slice xa2 xn2 xc2] 25):=⟨_,rfl⟩
     have HV18:Hid (Upto [] wr w18):=Lib.hid (by rw [hw18];exact (Upto.refl [] wr).alloc _)
     have HX18:Hid (w18.heap[wr.heap.size]?=some (.cells #[.int .i64 xo,.slice xa1 xn1 xc1,.int .i64 xs,.int .i64 xn,.int .i64 xm,.slice xa2 xn2 xc2] 25 (0,0))):=Lib.hid (by rw [hw18];exact new_at wr _)
     have HB18:=Lib.hid (HV18.out.at HBW.out (by simp))
     simp only [←hw18]
     clear hw18 HW8 e0 e1 e2 e3 e4 e5 d0 d1 d2 d3 d4 d5 x5
     refine (HBI.out _).mono ?_
     rintro e w19 ⟨rfl,hu19⟩
     have HV19:=Lib.hid (HV18.out.trans_ext hu19)
     have HX19:=Lib.hid (hu19.at HX18.out (by simp))
     have HB19:=Lib.hid (hu19.at HB18.out (by simp))
     clear hu19
     obtain⟨y0,y1,y2,y3,y4,y5⟩:=cells6 HX19.out
     obtain⟨x0,x1,x2,x3,x4,x5⟩:=cells6 HB19.out
     have hcq:=HCB.out w19 (HU4.out.trans_ext (HUW.out.trans_ext HV19.out))
     rw [Nat.add_zero] at hcq
     have HFL:Hid ((freeR x).length≤8000):=Lib.hid (by have h1:=freeR_len x;have h2:=HXD.out.2.2;omega)
     have HFC:=Lib.hid (freeRef_calls 8000 x (by have:=HXD.out.2.2;omega) (by omega) (good_of x HXD.out.2.1).1 (by have:=HXD.out.2.2;omega) _ w19 _ (HXN.out.ext HV19.out))
     go_wp2_with fail
     refine HFC.out.mono ?_
     rintro e wa ⟨va9,rfl,hr9⟩
     have HHC:=Lib.hid (hasR_calls (freeR x) fr va9 wa _ hr9.slp (by have:=HFL.out;omega))
     have HVL:=Lib.hid (HV19.out.trans_ext hr9.up)
     have HXL:=Lib.hid (hr9.up.at HX19.out (by simp))
     obtain⟨a9,c9,rfl⟩:=hr9.slp.len
     clear hr9 x0 x1 x2 x3 x4 x5 y0 y1 y2 y3 y4 y5
     go_wp2_with fail
     refine HHC.out.mono ?_
     rintro e wb ⟨rfl,hwb⟩
     have hwb2:=hwb.symm
     subst hwb2
     rw [HCP.out]
     obtain⟨LF,hLF⟩:∃LF,LF=freeR x:=⟨_,rfl⟩
     obtain⟨LB,hLB⟩:∃LB,LB=boundR x:=⟨_,rfl⟩
     have HLFB:Hid (LF=freeR x∧LB=boundR x):=Lib.hid ⟨hLF,hLB⟩
     have hlen1:LF.length≤8000:=by rw [hLF];exact HFL.out
     have hlen2:(LB.map sV).length≤8000:=by rw [List.length_map,hLB];have h1:=boundR_len x;have h2:=HXD.out.2.2;omega
     have hlen3:LB.length≤8000:=by simpa using hlen2
     have HLFN:=Lib.hid hlen1
     have HFR:Hid (∀u,Upto [] wa u→Calls Tryz.prog 21 #[.agg #[.int .i64 xo,.slice xa1 xn1 xc1,.int .i64 xs,.int .i64 xn,.int .i64 xm,.slice xa2 xn2 xc2]] u (FqPost u LF)):=Lib.hid (fun u hu=>by
      rw [hLF]
      exact freeRef_calls 8000 x (by have:=HXD.out.2.2;omega) (by omega) (good_of x HXD.out.2.1).1 (by have:=HXD.out.2.2;omega) _ u _ (HXN.out.ext (HVL.out.trans_ext hu)))
     have HBO:Hid (∀u,Upto [] wa u→Calls Tryz.prog 25 #[.agg #[.int .i64 xo,.slice xa1 xn1 xc1,.int .i64 xs,.int .i64 xn,.int .i64 xm,.slice xa2 xn2 xc2]] u (FqPost u LB)):=Lib.hid (fun u hu=>by
      rw [hLB]
      exact boundRef_calls 8000 x (by have:=HXD.out.2.2;omega) (by omega) (good_of x HXD.out.2.1).1 _ u _ (HXN.out.ext (HVL.out.trans_ext hu)))
     have hone:∀u∈LB.map sV,u.oneCell'=true:=fun u hu=>by
      obtain⟨y,-,rfl⟩:=List.mem_map.1 hu
      rfl
     clear hLF hLB hcq
     go_wp2_with fail
     have k0:∀u:Ext wa,u.w.cell? ⟨wr.heap.size,0,none⟩=some (.int .i64 xo):=fun u=>u.cell (cell_of HXL.out 0)
     have k1:∀u:Ext wa,u.w.cell? ⟨wr.heap.size,1,none⟩=some (.slice xa1 xn1 xc1):=fun u=>u.cell (cell_of HXL.out 1)
     have k2:∀u:Ext wa,u.w.cell? ⟨wr.heap.size,2,none⟩=some (.int .i64 xs):=fun u=>u.cell (cell_of HXL.out 2)
     have k3:∀u:Ext wa,u.w.cell? ⟨wr.heap.size,3,none⟩=some (.int .i64 xn):=fun u=>u.cell (cell_of HXL.out 3)
     have k4:∀u:Ext wa,u.w.cell? ⟨wr.heap.size,4,none⟩=some (.int .i64 xm):=fun u=>u.cell (cell_of HXL.out 4)
     have k5:∀u:Ext wa,u.w.cell? ⟨wr.heap.size,5,none⟩=some (.slice xa2 xn2 xc2):=fun u=>u.cell (cell_of HXL.out 5)
     refine wp_region_noPanic ?_
     refine wp_region_seg2_at [2,3,5] [0,9] [7,8] [1,2,0,3,4,5] 9 6 [10,11] 10 _ _ (fun _ _ _ _ _ h=>h) (by kernel_rfl) (by kernel_rfl) (by kernel_rfl) rfl rfl ?_
     refine pre_plain rfl rfl rfl ?_
     intro K' hK'
     go_big_quiet_op
     go_big_quiet_on
     refine pre_plain rfl rfl rfl ?_
     intro K' hK'
     go_big_quiet_op
     go_big_quiet_on
     (refine seg_plain rfl rfl rfl rfl rfl ?_;intro K' hK';go_big_quiet_op;go_big_quiet_on)
     refine seg_callO (Y:=Option Addr×Nat) (fun tt=>.slice tt.1 LF.length tt.2) (fun tt u=>SlP u (fun _=>True) (.slice tt.1 LF.length tt.2) LF.length (LF.map sV)) (fun _=>[]) rfl rfl rfl rfl (fun _ _ _ h hu=>h.ext hu) (fun _=>List.nodup_nil) (fun w=>by go_simp) (fun w hu hd=>(HFR.out w hu).mono fun e w' ⟨vo,h1,h2⟩=>by
      obtain⟨va,vc,rfl⟩:=h2.slp.len
      exact⟨(va,vc),h1,h2.up,h2.slp.mono (fun _ _ _=>trivial),fun b hb=>by cases hb⟩) ?_
     rintro⟨fa,fc⟩
     simp only [Act.put,List.setIfInBounds_toArray,List.set_cons_zero,List.set_cons_succ]
     refine seg_made (.cells #[] 9) (fun b=>.slice (some ⟨b,0,none⟩) 0 0) rfl rfl rfl (fun w=>by go_simp) ?_
     intro b0
     simp only [Act.put,List.setIfInBounds_toArray,List.set_cons_zero,List.set_cons_succ]
     refine seg_opq (Y:=Option Addr×Nat) (fun tt=>.slice tt.1 LF.length tt.2) (fun tt u=>u.ownsRow 0 9 1 (.slice tt.1 LF.length tt.2) LF.length (LF.map sV)∧∀g,(Value.slice tt.1 LF.length tt.2).ownBlock=some g→g=b0∨wa.heap.size≤g) (fun tt=>(Value.slice tt.1 LF.length tt.2).ownBlock.toList.filter (fun g=>g != b0)) rfl rfl rfl rfl (fun _ _ _ h hu=>⟨ownsRow_upto h.1 hu (by simp),h.2⟩) (fun tt=>List.Pairwise.filter _ (own_nodup _)) (fun w post hu hd hp=>opq_appsT w (.tmp 93) (.tmp 95) 22 rfl 9 i0 (.string ⟨#[]⟩) 16 Tryz.underlying22 HI0.out HZ0.out HZ1'.out HZ2'.out rfl b0 rfl (hd.1 (by kernel_rfl)) (.slice fa LF.length fc) (LF.map sV) LF.length (by rw [List.length_map]) rfl (SlP.slc (P:=fun _=>True) (by rw [List.length_map];exact hd.2.1 (by kernel_rfl))) (by unfold maxLen;have:=HLFN.out;omega) (by have:=HLFN.out;omega) (fun b' c' w' hu' hrow hown=>hp (b',c') w' hu' ⟨hrow,fun g hg=>(hown g hg).1.imp (fun h=>h) (fun h=>Nat.le_trans hu.size h)⟩ (fun g hg=>by
      obtain⟨h1,h2⟩:=List.mem_filter.1 hg
      have h3:=hown g (Option.mem_toList.1 h1)
      have h4:g≠b0:=by simpa using h2
      exact⟨h3.1.resolve_left h4,h3.2⟩))) ?_
     rintro⟨ga,gc⟩
     simp only [Act.put,List.setIfInBounds_toArray,List.set_cons_zero,List.set_cons_succ]
     (refine seg_plain rfl rfl rfl rfl rfl ?_;intro K' hK';go_big_quiet_op;go_big_quiet_on)
     refine seg_callO (Y:=Option Addr×Nat) (fun tt=>.slice tt.1 LB.length tt.2) (fun tt u=>SlP u (fun _=>True) (.slice tt.1 LB.length tt.2) LB.length (LB.map sV)) (fun _=>[]) rfl rfl rfl rfl (fun _ _ _ h hu=>h.ext hu) (fun _=>List.nodup_nil) (fun w=>by go_simp) (fun w hu hd=>(HBO.out w hu).mono fun e w' ⟨vo,h1,h2⟩=>by
      obtain⟨va,vc,rfl⟩:=h2.slp.len
      exact⟨(va,vc),h1,h2.up,h2.slp.mono (fun _ _ _=>trivial),fun b hb=>by cases hb⟩) ?_
     rintro⟨ba,bc⟩
     simp only [Act.put,List.setIfInBounds_toArray,List.set_cons_zero,List.set_cons_succ]
     refine⟨?_,?_⟩
     ·intro w10 hg
      have HT10:Hid (TxI wa LF (.slice ga LF.length gc) w10):=Lib.hid ⟨hg.hold.2.1.1,fun q hq=>(hg.hold.2.1.2 q hq).elim (fun h=>by rw [h];exact (hg.inb _ (List.mem_cons_of_mem _ (List.mem_cons_of_mem _ List.mem_cons_self)) b0 (show b0∈[b0] from List.mem_cons_self)).1) (fun h=>h),hg.up⟩
      have HBD:Hid (SlC w10 (.slice ba LB.length bc) (LB.map sV)):=Lib.hid (SlP.slc (P:=fun _=>True) (by rw [List.length_map];exact hg.hold.1))
      simp only [List.drop_succ_cons,List.drop_zero]
      have hrow:=HT10.out.row
      clear hg k0 k1 k2 k3 k4 k5
      go_wp2_with (at_builtin;first
       | (refine wpList_apps _ rfl (.tmp 96) (.tmp 98) 22 rfl 9 i0 (.string ⟨#[]⟩) 16 Tryz.underlying22 HI0.out HZ0.out HZ1'.out HZ2'.out rfl (.slice ga LF.length gc) LF.length _ rfl hrow (.slice ba LB.length bc) (LB.map sV) rfl HBD.out hone (by simp only [maxLen];omega) (by omega) ?_;intro vb vd w11 ho hu hw;simp only [List.length_map] at ho hw ⊢;have HM:=Lib.hid (HT10.out.apps (ys:=LB) rfl rfl ho hu hw);clear hrow ho hu hw;have HT11:Hid (TxI wa (LF++LB) (.slice vb (LF.length+LB.length) vd) (w11.alloc (.cells #[.string ⟨fr.toArray⟩,.string ⟨ta.toArray⟩] 9))):=Lib.hid (HM.out.ext ((Upto.refl [] _).alloc _));have hrow2:=HT11.out.row;rw [show (LF++LB).length=LF.length+LB.length from List.length_append] at hrow2;have hsrc2:=cells_at (l:=[sV fr,sV ta]) (new_at w11 (.cells #[.string ⟨fr.toArray⟩,.string ⟨ta.toArray⟩] 9)))
       | (refine wpList_app _ rfl (.tmp 99) (.tmp 102) 22 rfl 9 i0 (.string ⟨#[]⟩) 1 16 Tryz.underlying22 HI0.out HZ0.out HZ1'.out HZ2'.out rfl (by decide) (.slice vb (LF.length+LB.length) vd) (LF.length+LB.length) _ rfl hrow2 ⟨w11.heap.size,0,none⟩ 2 2 [sV fr,sV ta] rfl rfl hsrc2 (by simp [Value.oneCell',sV]) (by simp only [maxLen];omega) (by omega) ?_;intro vb2 vd2 w12 ho hu hw;have HN:=Lib.hid (HT11.out.apps (ys:=[fr,ta]) (by simp) rfl ho hu hw);clear hrow2 hsrc2 ho hu hw))
      clear HM HT11 HT10
      refine NoPanic.normal ?_
      go_wp2_with fail
      have HFG:=Lib.hid (freshRG_calls ta (LF++LB++[fr,ta]) (.slice vb2 (LF.length+LB.length+2) vd2) w12 _ (by have:=HN.out.slp;simpa using this) (by rw [HLFB.out.1,HLFB.out.2];exact HCN.out.2.2) (by have:=name_len HTA.out;omega))
      refine HFG.out.mono ?_
      rintro e w13 ⟨rfl,hu13⟩
      rw [show freshG ta (LF++LB++[fr,ta])=CAP by rw [HLFB.out.1,HLFB.out.2];exact HCN.out.2.1.symm]
      have HV13:Hid (Upto [] wa w13):=Lib.hid (HN.out.up.trans_ext hu13)
      have HX13:=Lib.hid (HV13.out.at HXL.out (by simp))
      obtain⟨w14,hw14⟩:∃w14,w14=w13.alloc (.cells #[.string ⟨CAP.toArray⟩] 9):=⟨_,rfl⟩
      have HV14:Hid (Upto [] wa w14):=Lib.hid (by rw [hw14];exact HV13.out.trans_ext ((Upto.refl [] w13).alloc _))
      have HX14:Hid ((w13.alloc (.cells #[.string ⟨CAP.toArray⟩] 9)).heap[wr.heap.size]?=some (.cells #[.int .i64 xo,.slice xa1 xn1 xc1,.int .i64 xs,.int .i64 xn,.int .i64 xm,.slice xa2 xn2 xc2] 25 (0,0))):=Lib.hid (alloc_old HX13.out _)
      have HB7:Hid (w14.heap[w13.heap.size]?=some (.cells #[.string ⟨CAP.toArray⟩] 9 (0,0))):=Lib.hid (by rw [hw14];exact new_at w13 _)
      have HSZ7:Hid (wr.heap.size<w13.heap.size∧w13.heap.size<w14.heap.size):=Lib.hid ⟨lt_of_heap HX13.out,lt_of_heap HB7.out⟩
      have HVW14:Hid (Upto [] wr w14):=Lib.hid (HVL.out.trans_ext HV14.out)
      clear hu13 HFG HN
      obtain⟨e0,e1,e2,e3,e4,e5⟩:=cells6 HX14.out
      go_wp2_with fail
      simp only [←hw14]
      have HX14B:=Lib.hid (HV14.out.at HXL.out (by simp))
      clear hw14 HX14 e0 e1 e2 e3 e4 e5
      refine (IHH.out ta CAP HCN.out.1 x _ (fun b=>P b∧b<w.heap.size) w14 ⟨HXN.out.ext HVW14.out,HXD.out.1,HXD.out.2.1,HXD.out.2.2⟩).mono ?_
      rintro e w15 ⟨v15,rfl,hn15,hu15⟩
      obtain⟨po,pa1,pn1,pc1,ps,pn,pm,pa2,pn2,pc2,rfl⟩:=hn15.six
      have HX15:=Lib.hid (hu15.at HX14B.out (by simp))
      have HB15:=Lib.hid (hu15.at HB7.out (by simp))
      have HVW15:=Lib.hid (HVW14.out.trans_ext hu15)
      obtain⟨w16,hw16⟩:∃w16,w16=((((((w15.setCell ⟨wr.heap.size,0,none⟩ (.int .i64 po)).setCell ⟨wr.heap.size,1,none⟩ (.slice pa1 pn1 pc1)).setCell ⟨wr.heap.size,2,none⟩ (.int .i64 ps)).setCell ⟨wr.heap.size,3,none⟩ (.int .i64 pn)).setCell ⟨wr.heap.size,4,none⟩ (.int .i64 pm)).setCell ⟨wr.heap.size,5,none⟩ (.slice pa2 pn2 pc2)):=⟨_,rfl⟩
      have HS16:Hid (Upto [wr.heap.size] w15 w16):=Lib.hid (by rw [hw16];exact nd_self w15 wr.heap.size (.int .i64 po) (.slice pa1 pn1 pc1) (.int .i64 ps) (.int .i64 pn) (.int .i64 pm) (.slice pa2 pn2 pc2))
      have HX16:Hid (w16.heap[wr.heap.size]?=some (.cells #[.int .i64 po,.slice pa1 pn1 pc1,.int .i64 ps,.int .i64 pn,.int .i64 pm,.slice pa2 pn2 pc2] 25 (0,0))):=Lib.hid (by rw [hw16];exact nd_store HX15.out (.int .i64 po) (.slice pa1 pn1 pc1) (.int .i64 ps) (.int .i64 pn) (.int .i64 pm) (.slice pa2 pn2 pc2))
      have HVW16:Hid (Upto [] wr w16):=Lib.hid (by rw [hw16];exact nd_up HVW15.out (Or.inr (Nat.le_refl _)) (.int .i64 po) (.slice pa1 pn1 pc1) (.int .i64 ps) (.int .i64 pn) (.int .i64 pm) (.slice pa2 pn2 pc2))
      have HB16:=Lib.hid (HS16.out.at HB15.out (by have:=HSZ7.out;simp;omega))
      have HN16:Hid (NdV w16 (fun b=>(P b∧b<w.heap.size)∨New w14 b) (renF d ta CAP x) (.agg #[.int .i64 po,.slice pa1 pn1 pc1,.int .i64 ps,.int .i64 pn,.int .i64 pm,.slice pa2 pn2 pc2])):=Lib.hid (hn15.upto HS16.out (fun b hb _ hm=>by
       have h1:=HSZ7.out
       have h2:=(HU4.out.trans_ext HUW.out).size
       simp at hm
       rcases hb with hb | hb
       ·omega
       ·unfold New at hb;omega))
      have HCX:Hid (((((((w15.setCell ⟨wr.heap.size,0,none⟩ (.int .i64 po)).setCell ⟨wr.heap.size,1,none⟩ (.slice pa1 pn1 pc1)).setCell ⟨wr.heap.size,2,none⟩ (.int .i64 ps)).setCell ⟨wr.heap.size,3,none⟩ (.int .i64 pn)).setCell ⟨wr.heap.size,4,none⟩ (.int .i64 pm)).setCell ⟨wr.heap.size,5,none⟩ (.slice pa2 pn2 pc2)).heap[wr.heap.size]?=some (.cells #[.int .i64 po,.slice pa1 pn1 pc1,.int .i64 ps,.int .i64 pn,.int .i64 pm,.slice pa2 pn2 pc2] 25 (0,0))):=Lib.hid (by rw [←hw16];exact HX16.out)
      clear hn15 hu15
      obtain⟨y0,y1,y2,y3,y4,y5⟩:=cells6 HX15.out
      obtain⟨f0,f1,f2,f3,f4,f5⟩:=frees6 HX15.out
      obtain⟨c0,c1,c2,c3,c4,c5⟩:=cells6 HCX.out
      go_wp2_with fail
      simp only [←hw16]
      clear hw16 HCX y0 y1 y2 y3 y4 y5 f0 f1 f2 f3 f4 f5 c0 c1 c2 c3 c4 c5
      refine (IHH.out fr ta HTA.out (renF d ta CAP x) _ (fun b=>(P b∧b<w.heap.size)∨New w14 b) w16 ⟨HN16.out,HRS.out.1,HRS.out.2.1,HRS.out.2.2⟩).mono ?_
      rintro e w20 ⟨v20,rfl,hn20,hu20⟩
      obtain⟨ro,ra1,rn1,rc1,rs,rn,rm,ra2,rn2,rc2,rfl⟩:=hn20.six
      have HU20:=Lib.hid (HVW16.out.trans_ext hu20)
      have HB20:=Lib.hid (hu20.at HB16.out (by simp))
      have HN20:Hid (NdV w20 (fun b=>((P b∧b<w.heap.size)∨W.heap.size≤b)∧(Value.slice va2 i vc2).ownBlock≠some b) (renF d fr ta (renF d ta CAP x)) (.agg #[.int .i64 ro,.slice ra1 rn1 rc1,.int .i64 rs,.int .i64 rn,.int .i64 rm,.slice ra2 rn2 rc2])):=Lib.hid (hn20.mono (fun b hb _=>⟨by
       have h1:=(HT4.out.up.trans_ext (HUW.out.trans_ext HVW14.out)).size
       have h2:=(HT4.out.up.trans_ext (HUW.out.trans_ext HVW16.out)).size
       unfold New at hb
       rcases hb with (hb | hb) | hb
       ·exact Or.inl hb
       ·exact Or.inr (by omega)
       ·exact Or.inr (by omega),fun e=>by
       have h1:=HRW.out.own b e
       have h2:=own_ne HRW.out.row b e
       have h3:=HVW16.out.size
       have h5:=HU4.out.size
       have h6:=HVW14.out.size
       unfold New at hb
       omega⟩))
      clear hn20 hu20
      have HR20:=Lib.hid (HRW.out.ext (HU20.out.trans_ext ((Upto.refl [] w20).alloc (.cells #[.int .i64 ro,.slice ra1 rn1 rc1,.int .i64 rs,.int .i64 rn,.int .i64 rm,.slice ra2 rn2 rc2] 25))))
      have hrow2:=HR20.out.row
      rw [HMI.out] at hrow2
      have hsrc2:∀(j:Nat) (u:Value),([.int .i64 ro,.slice ra1 rn1 rc1,.int .i64 rs,.int .i64 rn,.int .i64 rm,.slice ra2 rn2 rc2]:List Value)[j]?=some u→(w20.alloc (.cells #[.int .i64 ro,.slice ra1 rn1 rc1,.int .i64 rs,.int .i64 rn,.int .i64 rm,.slice ra2 rn2 rc2] 25)).cell? ((⟨w20.heap.size,0,none⟩:Addr).add j)=some u:=cells_at (l:=[.int .i64 ro,.slice ra1 rn1 rc1,.int .i64 rs,.int .i64 rn,.int .i64 rm,.slice ra2 rn2 rc2]) (new_at w20 (.cells #[.int .i64 ro,.slice ra1 rn1 rc1,.int .i64 rs,.int .i64 rn,.int .i64 rm,.slice ra2 rn2 rc2] 25))
      go_wp2_with (at_builtin;refine wpList_app _ rfl (.tmp 113) (.tmp 118) 23 rfl 25 i1 (.agg #[.int .i64 0,.slice none 0 0,.int .i64 0,.int .i64 0,.int .i64 0,.slice none 0 0]) 6 80 Tryz.underlying23 HI1.out HY0.out HY1'.out HY2'.out rfl (by decide) (.slice va2 i vc2) i (cellsN c i) rfl hrow2 ⟨w20.heap.size,0,none⟩ 1 1 [.int .i64 ro,.slice ra1 rn1 rc1,.int .i64 rs,.int .i64 rn,.int .i64 rm,.slice ra2 rn2 rc2] rfl rfl hsrc2 (by simp [Value.oneCell']) (by unfold maxLen;omega) (by omega) ?_;intro vb vd w21 ho hu hw;have HA:=Lib.hid (AnRow.app HR20.out HMI.out (Nat.le_trans HUW.out.size (HU20.out.trans_ext ((Upto.refl [] w20).alloc (.cells #[.int .i64 ro,.slice ra1 rn1 rc1,.int .i64 rs,.int .i64 rn,.int .i64 rm,.slice ra2 rn2 rc2] 25))).size) (HN20.out.ext ((Upto.refl [] w20).alloc (.cells #[.int .i64 ro,.slice ra1 rn1 rc1,.int .i64 rs,.int .i64 rn,.int .i64 rm,.slice ra2 rn2 rc2] 25))) ho hu hw);have HU21:Hid (Upto [] w4 w21):=Lib.hid ((HUW.out.trans_ext (HU20.out.trans_ext ((Upto.refl [] w20).alloc (.cells #[.int .i64 ro,.slice ra1 rn1 rc1,.int .i64 rs,.int .i64 rn,.int .i64 rm,.slice ra2 rn2 rc2] 25)))).trans hu (fun k hk=>Or.inr (HR20.out.own k (Option.mem_toList.1 hk))));have HB21:Hid (w21.heap[w13.heap.size]?=some (.cells #[.string ⟨CAP.toArray⟩] 9 (0,0))):=Lib.hid (hu.at (alloc_old HB20.out _) (fun hm=>by have h1:=own_ne HRW.out.row _ (Option.mem_toList.1 hm);have h2:=HSZ7.out;omega));clear hrow2 hsrc2 ho hu hw)
      exact⟨⟨i+1,vb,vd,_,_,1,by omega,by simp,rfl,rfl,Lib.hid (slp_one HB21.out (Or.inr (by have h1:=(HT4.out.up.trans_ext (HUW.out.trans_ext HVL.out)).size;have h2:=HV13.out.size;omega)) (by rw [if_neg (by omega)])),HU21,Lib.hid (by rw [HTM.out];exact HA.out)⟩,by simp [intOf];omega⟩
     ·refine seg_made (.cells #[.string ⟨fr.toArray⟩,.string ⟨ta.toArray⟩] 9) (fun b=>.slice (some ⟨b,0,none⟩) 2 2) rfl rfl rfl (fun w=>by go_simp) ?_
      intro b9
      simp only [Act.put,List.setIfInBounds_toArray,List.set_cons_zero,List.set_cons_succ]
      intro w10 hg
      have HB9:Hid (w10.heap[b9]?=some (.cells #[.string ⟨fr.toArray⟩,.string ⟨ta.toArray⟩] 9 (0,0))):=Lib.hid hg.hold.1
      have HT10:Hid (TxI wa LF (.slice ga LF.length gc) w10):=Lib.hid ⟨hg.hold.2.2.1.1,fun q hq=>(hg.hold.2.2.1.2 q hq).elim (fun h=>by rw [h];exact (hg.inb _ (List.mem_cons_of_mem _ (List.mem_cons_of_mem _ (List.mem_cons_of_mem _ List.mem_cons_self))) b0 (show b0∈[b0] from List.mem_cons_self)).1) (fun h=>h),hg.up⟩
      have HBD:Hid (SlC w10 (.slice ba LB.length bc) (LB.map sV)):=Lib.hid (SlP.slc (P:=fun _=>True) (by rw [List.length_map];exact hg.hold.2.1))
      simp only [List.drop_succ_cons,List.drop_zero]
      have hrow:=HT10.out.row
      have HNE:Hid (b9∉(Value.slice ga LF.length gc).ownBlock.toList):=Lib.hid (by
       have hnd:=hg.nodup
       simp only [ownAll,List.flatMap_cons,List.flatMap_nil,List.append_nil,List.nil_append,List.singleton_append] at hnd
       intro hm
       have h1:=(List.nodup_cons.1 hnd).1
       simp only [List.mem_append,List.mem_filter,List.mem_singleton,not_or] at h1
       exact h1.1 ⟨hm,by simpa using h1.2⟩)
      clear hg k0 k1 k2 k3 k4 k5
      go_wp2_with (at_builtin;first
       | (refine wpList_apps _ rfl (.tmp 96) (.tmp 98) 22 rfl 9 i0 (.string ⟨#[]⟩) 16 Tryz.underlying22 HI0.out HZ0.out HZ1'.out HZ2'.out rfl (.slice ga LF.length gc) LF.length _ rfl hrow (.slice ba LB.length bc) (LB.map sV) rfl HBD.out hone (by simp only [maxLen];omega) (by omega) ?_;intro vb vd w11 ho hu hw;simp only [List.length_map] at ho hw ⊢;have HM:=Lib.hid (HT10.out.apps (ys:=LB) rfl rfl ho hu hw);have hsrc2:=cells_at (l:=[sV fr,sV ta]) (hu.at HB9.out HNE.out);clear hrow ho hu hw;have hrow2:=HM.out.row;rw [show (LF++LB).length=LF.length+LB.length from List.length_append] at hrow2)
       | (refine wpList_app _ rfl (.tmp 99) (.tmp 102) 22 rfl 9 i0 (.string ⟨#[]⟩) 1 16 Tryz.underlying22 HI0.out HZ0.out HZ1'.out HZ2'.out rfl (by decide) (.slice vb (LF.length+LB.length) vd) (LF.length+LB.length) _ rfl hrow2 ⟨b9,0,none⟩ 2 2 [sV fr,sV ta] rfl rfl hsrc2 (by simp [Value.oneCell',sV]) (by simp only [maxLen];omega) (by omega) ?_;intro vb2 vd2 w12 ho hu hw;have HN:=Lib.hid (HM.out.apps (ys:=[fr,ta]) (by simp) rfl ho hu hw);clear hrow2 hsrc2 ho hu hw))
      clear HM HT10
      refine NoPanic.normal ?_
      go_wp2_with fail
      have HFG:=Lib.hid (freshRG_calls ta (LF++LB++[fr,ta]) (.slice vb2 (LF.length+LB.length+2) vd2) w12 _ (by have:=HN.out.slp;simpa using this) (by rw [HLFB.out.1,HLFB.out.2];exact HCN.out.2.2) (by have:=name_len HTA.out;omega))
      refine HFG.out.mono ?_
      rintro e w13 ⟨rfl,hu13⟩
      rw [show freshG ta (LF++LB++[fr,ta])=CAP by rw [HLFB.out.1,HLFB.out.2];exact HCN.out.2.1.symm]
      have HV13:Hid (Upto [] wa w13):=Lib.hid (HN.out.up.trans_ext hu13)
      have HX13:=Lib.hid (HV13.out.at HXL.out (by simp))
      obtain⟨w14,hw14⟩:∃w14,w14=w13.alloc (.cells #[.string ⟨CAP.toArray⟩] 9):=⟨_,rfl⟩
      have HV14:Hid (Upto [] wa w14):=Lib.hid (by rw [hw14];exact HV13.out.trans_ext ((Upto.refl [] w13).alloc _))
      have HX14:Hid ((w13.alloc (.cells #[.string ⟨CAP.toArray⟩] 9)).heap[wr.heap.size]?=some (.cells #[.int .i64 xo,.slice xa1 xn1 xc1,.int .i64 xs,.int .i64 xn,.int .i64 xm,.slice xa2 xn2 xc2] 25 (0,0))):=Lib.hid (alloc_old HX13.out _)
      have HB7:Hid (w14.heap[w13.heap.size]?=some (.cells #[.string ⟨CAP.toArray⟩] 9 (0,0))):=Lib.hid (by rw [hw14];exact new_at w13 _)
      have HSZ7:Hid (wr.heap.size<w13.heap.size∧w13.heap.size<w14.heap.size):=Lib.hid ⟨lt_of_heap HX13.out,lt_of_heap HB7.out⟩
      have HVW14:Hid (Upto [] wr w14):=Lib.hid (HVL.out.trans_ext HV14.out)
      clear hu13 HFG HN
      obtain⟨e0,e1,e2,e3,e4,e5⟩:=cells6 HX14.out
      go_wp2_with fail
      simp only [←hw14]
      have HX14B:=Lib.hid (HV14.out.at HXL.out (by simp))
      clear hw14 HX14 e0 e1 e2 e3 e4 e5
      refine (IHH.out ta CAP HCN.out.1 x _ (fun b=>P b∧b<w.heap.size) w14 ⟨HXN.out.ext HVW14.out,HXD.out.1,HXD.out.2.1,HXD.out.2.2⟩).mono ?_
      rintro e w15 ⟨v15,rfl,hn15,hu15⟩
      obtain⟨po,pa1,pn1,pc1,ps,pn,pm,pa2,pn2,pc2,rfl⟩:=hn15.six
      have HX15:=Lib.hid (hu15.at HX14B.out (by simp))
      have HB15:=Lib.hid (hu15.at HB7.out (by simp))
      have HVW15:=Lib.hid (HVW14.out.trans_ext hu15)
      obtain⟨w16,hw16⟩:∃w16,w16=((((((w15.setCell ⟨wr.heap.size,0,none⟩ (.int .i64 po)).setCell ⟨wr.heap.size,1,none⟩ (.slice pa1 pn1 pc1)).setCell ⟨wr.heap.size,2,none⟩ (.int .i64 ps)).setCell ⟨wr.heap.size,3,none⟩ (.int .i64 pn)).setCell ⟨wr.heap.size,4,none⟩ (.int .i64 pm)).setCell ⟨wr.heap.size,5,none⟩ (.slice pa2 pn2 pc2)):=⟨_,rfl⟩
      have HS16:Hid (Upto [wr.heap.size] w15 w16):=Lib.hid (by rw [hw16];exact nd_self w15 wr.heap.size (.int .i64 po) (.slice pa1 pn1 pc1) (.int .i64 ps) (.int .i64 pn) (.int .i64 pm) (.slice pa2 pn2 pc2))
      have HX16:Hid (w16.heap[wr.heap.size]?=some (.cells #[.int .i64 po,.slice pa1 pn1 pc1,.int .i64 ps,.int .i64 pn,.int .i64 pm,.slice pa2 pn2 pc2] 25 (0,0))):=Lib.hid (by rw [hw16];exact nd_store HX15.out (.int .i64 po) (.slice pa1 pn1 pc1) (.int .i64 ps) (.int .i64 pn) (.int .i64 pm) (.slice pa2 pn2 pc2))
      have HVW16:Hid (Upto [] wr w16):=Lib.hid (by rw [hw16];exact nd_up HVW15.out (Or.inr (Nat.le_refl _)) (.int .i64 po) (.slice pa1 pn1 pc1) (.int .i64 ps) (.int .i64 pn) (.int .i64 pm) (.slice pa2 pn2 pc2))
      have HB16:=Lib.hid (HS16.out.at HB15.out (by have:=HSZ7.out;simp;omega))
      have HN16:Hid (NdV w16 (fun b=>(P b∧b<w.heap.size)∨New w14 b) (renF d ta CAP x) (.agg #[.int .i64 po,.slice pa1 pn1 pc1,.int .i64 ps,.int .i64 pn,.int .i64 pm,.slice pa2 pn2 pc2])):=Lib.hid (hn15.upto HS16.out (fun b hb _ hm=>by
       have h1:=HSZ7.out
       have h2:=(HU4.out.trans_ext HUW.out).size
       simp at hm
       rcases hb with hb | hb
       ·omega
       ·unfold New at hb;omega))
      have HCX:Hid (((((((w15.setCell ⟨wr.heap.size,0,none⟩ (.int .i64 po)).setCell ⟨wr.heap.size,1,none⟩ (.slice pa1 pn1 pc1)).setCell ⟨wr.heap.size,2,none⟩ (.int .i64 ps)).setCell ⟨wr.heap.size,3,none⟩ (.int .i64 pn)).setCell ⟨wr.heap.size,4,none⟩ (.int .i64 pm)).setCell ⟨wr.heap.size,5,none⟩ (.slice pa2 pn2 pc2)).heap[wr.heap.size]?=some (.cells #[.int .i64 po,.slice pa1 pn1 pc1,.int .i64 ps,.int .i64 pn,.int .i64 pm,.slice pa2 pn2 pc2] 25 (0,0))):=Lib.hid (by rw [←hw16];exact HX16.out)
      clear hn15 hu15
      obtain⟨y0,y1,y2,y3,y4,y5⟩:=cells6 HX15.out
      obtain⟨f0,f1,f2,f3,f4,f5⟩:=frees6 HX15.out
      obtain⟨c0,c1,c2,c3,c4,c5⟩:=cells6 HCX.out
      go_wp2_with fail
      simp only [←hw16]
      clear hw16 HCX y0 y1 y2 y3 y4 y5 f0 f1 f2 f3 f4 f5 c0 c1 c2 c3 c4 c5
      refine (IHH.out fr ta HTA.out (renF d ta CAP x) _ (fun b=>(P b∧b<w.heap.size)∨New w14 b) w16 ⟨HN16.out,HRS.out.1,HRS.out.2.1,HRS.out.2.2⟩).mono ?_
      rintro e w20 ⟨v20,rfl,hn20,hu20⟩
      obtain⟨ro,ra1,rn1,rc1,rs,rn,rm,ra2,rn2,rc2,rfl⟩:=hn20.six
      have HU20:=Lib.hid (HVW16.out.trans_ext hu20)
      have HB20:=Lib.hid (hu20.at HB16.out (by simp))
      have HN20:Hid (NdV w20 (fun b=>((P b∧b<w.heap.size)∨W.heap.size≤b)∧(Value.slice va2 i vc2).ownBlock≠some b) (renF d fr ta (renF d ta CAP x)) (.agg #[.int .i64 ro,.slice ra1 rn1 rc1,.int .i64 rs,.int .i64 rn,.int .i64 rm,.slice ra2 rn2 rc2])):=Lib.hid (hn20.mono (fun b hb _=>⟨by
       have h1:=(HT4.out.up.trans_ext (HUW.out.trans_ext HVW14.out)).size
       have h2:=(HT4.out.up.trans_ext (HUW.out.trans_ext HVW16.out)).size
       unfold New at hb
       rcases hb with (hb | hb) | hb
       ·exact Or.inl hb
       ·exact Or.inr (by omega)
       ·exact Or.inr (by omega),fun e=>by
       have h1:=HRW.out.own b e
       have h2:=own_ne HRW.out.row b e
       have h3:=HVW16.out.size
       have h5:=HU4.out.size
       have h6:=HVW14.out.size
       unfold New at hb
       omega⟩))
      clear hn20 hu20
      have HR20:=Lib.hid (HRW.out.ext (HU20.out.trans_ext ((Upto.refl [] w20).alloc (.cells #[.int .i64 ro,.slice ra1 rn1 rc1,.int .i64 rs,.int .i64 rn,.int .i64 rm,.slice ra2 rn2 rc2] 25))))
      have hrow2:=HR20.out.row
      rw [HMI.out] at hrow2
      have hsrc2:∀(j:Nat) (u:Value),([.int .i64 ro,.slice ra1 rn1 rc1,.int .i64 rs,.int .i64 rn,.int .i64 rm,.slice ra2 rn2 rc2]:List Value)[j]?=some u→(w20.alloc (.cells #[.int .i64 ro,.slice ra1 rn1 rc1,.int .i64 rs,.int .i64 rn,.int .i64 rm,.slice ra2 rn2 rc2] 25)).cell? ((⟨w20.heap.size,0,none⟩:Addr).add j)=some u:=cells_at (l:=[.int .i64 ro,.slice ra1 rn1 rc1,.int .i64 rs,.int .i64 rn,.int .i64 rm,.slice ra2 rn2 rc2]) (new_at w20 (.cells #[.int .i64 ro,.slice ra1 rn1 rc1,.int .i64 rs,.int .i64 rn,.int .i64 rm,.slice ra2 rn2 rc2] 25))
      go_wp2_with (at_builtin;refine wpList_app _ rfl (.tmp 113) (.tmp 118) 23 rfl 25 i1 (.agg #[.int .i64 0,.slice none 0 0,.int .i64 0,.int .i64 0,.int .i64 0,.slice none 0 0]) 6 80 Tryz.underlying23 HI1.out HY0.out HY1'.out HY2'.out rfl (by decide) (.slice va2 i vc2) i (cellsN c i) rfl hrow2 ⟨w20.heap.size,0,none⟩ 1 1 [.int .i64 ro,.slice ra1 rn1 rc1,.int .i64 rs,.int .i64 rn,.int .i64 rm,.slice ra2 rn2 rc2] rfl rfl hsrc2 (by simp [Value.oneCell']) (by unfold maxLen;omega) (by omega) ?_;intro vb vd w21 ho hu hw;have HA:=Lib.hid (AnRow.app HR20.out HMI.out (Nat.le_trans HUW.out.size (HU20.out.trans_ext ((Upto.refl [] w20).alloc (.cells #[.int .i64 ro,.slice ra1 rn1 rc1,.int .i64 rs,.int .i64 rn,.int .i64 rm,.slice ra2 rn2 rc2] 25))).size) (HN20.out.ext ((Upto.refl [] w20).alloc (.cells #[.int .i64 ro,.slice ra1 rn1 rc1,.int .i64 rs,.int .i64 rn,.int .i64 rm,.slice ra2 rn2 rc2] 25))) ho hu hw);have HU21:Hid (Upto [] w4 w21):=Lib.hid ((HUW.out.trans_ext (HU20.out.trans_ext ((Upto.refl [] w20).alloc (.cells #[.int .i64 ro,.slice ra1 rn1 rc1,.int .i64 rs,.int .i64 rn,.int .i64 rm,.slice ra2 rn2 rc2] 25)))).trans hu (fun k hk=>Or.inr (HR20.out.own k (Option.mem_toList.1 hk))));have HB21:Hid (w21.heap[w13.heap.size]?=some (.cells #[.string ⟨CAP.toArray⟩] 9 (0,0))):=Lib.hid (hu.at (alloc_old HB20.out _) (fun hm=>by have h1:=own_ne HRW.out.row _ (Option.mem_toList.1 hm);have h2:=HSZ7.out;omega));clear hrow2 hsrc2 ho hu hw)
      exact⟨⟨i+1,vb,vd,_,_,1,by omega,by simp,rfl,rfl,Lib.hid (slp_one HB21.out (Or.inr (by have h1:=(HT4.out.up.trans_ext (HUW.out.trans_ext HVL.out)).size;have h2:=HV13.out.size;omega)) (by rw [if_neg (by omega)])),HU21,Lib.hid (by rw [HTM.out];exact HA.out)⟩,by simp [intOf];omega⟩
    ·obtain rfl:i=1:=by omega
     have HTT:Hid ([renF d fr ta (renF d ta CAP x)].take 1=[renF d fr ta (renF d ta CAP x)]):=Lib.hid rfl
     rw [HTT.out] at HRW
     have HNMS:=HSN
     obtain⟨x0,x1,x2,x3,x4,x5⟩:=cells6 HBW.out
     go_wp2_with fail
     refine (with51_calls op so nn mm _ _ _ _ _ _ _ _ _ _ _ _ wr).mono ?_
     rintro e w22 ⟨rfl,hu22⟩
     have HZ22:=Lib.hid ((HT4.out.up.trans_ext (HUW.out.trans_ext hu22)).at HB2.out (by simp))
     have HU22:=Lib.hid (HU4.out.trans_ext (HUW.out.trans_ext hu22))
     have HT22:=Lib.hid (HNMS.out.ext hu22)
     have HR22:=Lib.hid (HRW.out.ext hu22)
     clear hu22 x0 x1 x2 x3 x4 x5
     obtain⟨y0,y1,y2,y3,y4,y5⟩:=cells6 HZ22.out
     obtain⟨f0,f1,f2,f3,f4,f5⟩:=frees6 HZ22.out
     go_wp2_with fail
     clear y0 y1 y2 y3 y4 y5 f0 f1 f2 f3 f4 f5
     have hst:=nd_store HZ22.out (.int .i64 op) (.slice na 1 nc) (.int .i64 so) (.int .i64 nn) (.int .i64 mm) (.slice va2 1 vc2)
     have hself:=nd_self w22 (w.heap.size+1) (.int .i64 op) (.slice na 1 nc) (.int .i64 so) (.int .i64 nn) (.int .i64 mm) (.slice va2 1 vc2)
     have hup:=nd_up HU22.out (B:=w.heap.size+1) (Or.inr (by omega)) (.int .i64 op) (.slice na 1 nc) (.int .i64 so) (.int .i64 nn) (.int .i64 mm) (.slice va2 1 vc2)
     have hnd:NdV w22 (fun b=>(P b∧b<w.heap.size)∨W.heap.size≤b) (.mk op [CAP] so nn mm [renF d fr ta (renF d ta CAP x)]) (.agg #[.int .i64 op,.slice na 1 nc,.int .i64 so,.int .i64 nn,.int .i64 mm,.slice va2 1 vc2]):=by
      unfold NdV
      refine⟨_,_,rfl,by have h9:=HT22.out;rw [if_neg (by omega)] at h9;exact h9,?_⟩
      exact HR22.out.list (fun b hb=>hb) (fun g hg=>Or.inr (Nat.le_trans HT4.out.up.size hg))
     have hnd2:=(hnd.upto hself (fun b hb _ hm=>by have h1:=HWZ.out;simp at hm;omega)).mono (Q:=fun b=>P b∨New w b) (fun b hb _=>hb.imp (fun h2=>h2.1) (fun h2=>by have h1:=HWZ.out;unfold New;omega))
     obtain⟨q0,q1,q2,q3,q4,q5⟩:=cells6 hst
     exact bodyPost_ret (v:=.agg #[.int .i64 op,.slice na 1 nc,.int .i64 so,.int .i64 nn,.int .i64 mm,.slice va2 1 vc2]) (by simp [results,Tryz.results17,go_sem,q0,q1,q2,q3,q4,q5]) rfl ⟨_,rfl,hnd2,hup⟩
theorem renR_calls:∀(d:Nat) (fr ta:List UInt8),nameF ta=true→∀(x:Nd) (v:Value) (P:Nat→Prop) (u:World),RrIn u d P x v→Calls Tryz.prog 17 #[v,.string ⟨fr.toArray⟩,.string ⟨ta.toArray⟩] u (RrPost P u (renF d fr ta x))
 | 0,fr,ta,hta,.mk op nms so nn mm l,v,P,u,h=>by
  have:=h.deep
  simp only [depthF] at this
  omega
 | d+1,fr,ta,hta,.mk op nms so nn mm l,v,P,u,h=>by
  have IH:=renR_calls d
  cases hb:bindsF op nms.length with
  | false=>exact rr_plain_calls d fr ta (IH fr ta hta) op so nn mm nms l v P u hb h
  | true =>
   have hone:=one_of _ h.form
   unfold oneN at hone
   obtain⟨h1,h2⟩:=hone.1 hb
   obtain⟨b,hnm⟩:=List.length_eq_one_iff.1 h1
   obtain⟨x,hlx⟩:=List.length_eq_one_iff.1 h2
   by_cases hbf:b=fr
   ·exact rr_shut_calls d fr ta hta IH op so nn mm nms l b x hnm hlx v P u hb hbf h
   ·by_cases hc:b=ta∧(freeR x).contains fr=true
    ·exact rr_take_calls d fr ta hta IH op so nn mm nms l b x hnm hlx v P u hb hbf hc.1 hc.2 h
    ·exact rr_pass_calls d fr ta hta IH op so nn mm nms l b x hnm hlx v P u hb hbf hc h
set_option maxRecDepth 100000 in
set_option maxHeartbeats 6400000 in
theorem rename11_bad (n:Nd) (fr ta:List UInt8) (v:Value) (P:Nat→Prop) (w:World) (he:Env w) (hf:FEnv w) (h:NdV w P n v) (hk:sizeF n≤10000000) (hin:inN 10000000 n) (hl1:fr.length≤281474976710656) (hl2:ta.length≤281474976710656) (hc:¬checkF nameF n=0) :
  Calls Tryz.prog 11 #[v,.string ⟨fr.toArray⟩,.string ⟨ta.toArray⟩] w fun e w'=>e=.returned (.tuple #[.agg #[.int .i64 0,.slice none 0 0,.int .i64 0,.int .i64 0,.int .i64 0,.slice none 0 0],.int .i64 (checkF nameF n:Nat)])∧Upto [] w w':=by
 have HCK:=Lib.hid (fun u (hu:Upto [] w u)=>checkf_calls n v u P (h.ext hu) hk hin (he.ext hu) (hf.ext hu))
 have HIX:=Lib.hid (fun u (hu:Upto [] w u)=>isIdent_calls fr u (he.ext hu) hl1)
 have HIY:=Lib.hid (fun u (hu:Upto [] w u)=>isIdent_calls ta u (he.ext hu) hl2)
 rw [ident_is] at HIX HIY
 obtain⟨C,hC⟩:∃C,C=checkF nameF n:=⟨_,rfl⟩
 rw [←hC] at HCK hc ⊢
 have hci:¬(C:Int)=0:=by omega
 have hc1:((C:Int)==0)=false:=by rw [beq_eq_false_iff_ne];exact hci
 have hc2:((C:Int) != 0)=true:=by rw [bne,hc1];rfl
 clear hc
 obtain⟨op,a1,n1,c1,so,nn,mm,a2,n2,c2,rfl⟩:=h.six
 clear h hin he hf hl1 hl2 hk hC
 obtain⟨W,hW⟩:∃W,W=(w.alloc (.cells #[.int .i64 op,.slice a1 n1 c1,.int .i64 so,.int .i64 nn,.int .i64 mm,.slice a2 n2 c2] 30)).alloc (.cells #[.int .i64 0,.slice none 0 0,.int .i64 0,.int .i64 0,.int .i64 0,.slice none 0 0] 30):=⟨_,rfl⟩
 have HU:Hid (Upto [] w W):=Lib.hid (by rw [hW];exact ((Upto.refl [] w).alloc _).alloc _)
 have HB1:Hid (W.heap[w.heap.size]?=some (.cells #[.int .i64 op,.slice a1 n1 c1,.int .i64 so,.int .i64 nn,.int .i64 mm,.slice a2 n2 c2] 30 (0,0))):=Lib.hid (by rw [hW];exact alloc_old (new_at w _) _)
 have HB2:Hid (W.heap[w.heap.size+1]?=some (.cells #[.int .i64 0,.slice none 0 0,.int .i64 0,.int .i64 0,.int .i64 0,.slice none 0 0] 30 (0,0))):=Lib.hid (by rw [hW];exact new_at1 w _ _)
 obtain⟨x0,x1,x2,x3,x4,x5⟩:=cells6 HB1.out
 go_enter Tryz.func11,Tryz.ntmps11
 go_wp2_with fail
 simp only [←hW]
 clear hW
 go_wp2_with fail
 refine (HCK.out _ HU.out).mono ?_
 rintro e w1 ⟨rfl,hu1⟩
 have HU1:=Lib.hid (HU.out.trans_ext hu1)
 have HZ1:=Lib.hid (hu1.at HB2.out (by simp))
 clear hu1 x0 x1 x2 x3 x4 x5
 obtain⟨y0,y1,y2,y3,y4,y5⟩:=cells6 HZ1.out
 obtain⟨f0,f1,f2,f3,f4,f5⟩:=frees6 HZ1.out
 go_wp2_with fail
 clear y0 y1 y2 y3 y4 y5 f0 f1 f2 f3 f4 f5
 have hst:=nd_store HZ1.out (.int .i64 0) (.slice none 0 0) (.int .i64 0) (.int .i64 0) (.int .i64 0) (.slice none 0 0)
 have hup:=nd_up HU1.out (B:=w.heap.size+1) (Or.inr (by omega)) (.int .i64 0) (.slice none 0 0) (.int .i64 0) (.int .i64 0) (.int .i64 0) (.slice none 0 0)
 obtain⟨q0,q1,q2,q3,q4,q5⟩:=cells6 hst
 exact bodyPost_ret (v:=.tuple #[.agg #[.int .i64 0,.slice none 0 0,.int .i64 0,.int .i64 0,.int .i64 0,.slice none 0 0],.int .i64 C]) (by simp [results,Tryz.results11,go_sem,q0,q1,q2,q3,q4,q5]) rfl ⟨rfl,hup⟩
set_option maxRecDepth 100000 in
set_option maxHeartbeats 6400000 in
theorem rename11_names (n:Nd) (fr ta:List UInt8) (v:Value) (P:Nat→Prop) (w:World) (he:Env w) (hf:FEnv w) (h:NdV w P n v) (hk:sizeF n≤10000000) (hin:inN 10000000 n) (hl1:fr.length≤281474976710656) (hl2:ta.length≤281474976710656) (hc:checkF nameF n=0) (hn:(nameF fr&&nameF ta)=false) :
  Calls Tryz.prog 11 #[v,.string ⟨fr.toArray⟩,.string ⟨ta.toArray⟩] w fun e w'=>e=.returned (.tuple #[.agg #[.int .i64 0,.slice none 0 0,.int .i64 0,.int .i64 0,.int .i64 0,.slice none 0 0],.int .i64 3])∧Upto [] w w':=by
 have HCK:=Lib.hid (fun u (hu:Upto [] w u)=>checkf_calls n v u P (h.ext hu) hk hin (he.ext hu) (hf.ext hu))
 have HIX:=Lib.hid (fun u (hu:Upto [] w u)=>isIdent_calls fr u (he.ext hu) hl1)
 have HIY:=Lib.hid (fun u (hu:Upto [] w u)=>isIdent_calls ta u (he.ext hu) hl2)
 rw [ident_is] at HIX HIY
 obtain⟨C,hC⟩:∃C,C=checkF nameF n:=⟨_,rfl⟩
 rw [←hC] at HCK hc
 have HNB:=Lib.hid hn
 have hc0:C=0:=hc
 subst hc0
 clear hn
 obtain⟨op,a1,n1,c1,so,nn,mm,a2,n2,c2,rfl⟩:=h.six
 clear h hin he hf hl1 hl2 hk hC
 obtain⟨W,hW⟩:∃W,W=(w.alloc (.cells #[.int .i64 op,.slice a1 n1 c1,.int .i64 so,.int .i64 nn,.int .i64 mm,.slice a2 n2 c2] 30)).alloc (.cells #[.int .i64 0,.slice none 0 0,.int .i64 0,.int .i64 0,.int .i64 0,.slice none 0 0] 30):=⟨_,rfl⟩
 have HU:Hid (Upto [] w W):=Lib.hid (by rw [hW];exact ((Upto.refl [] w).alloc _).alloc _)
 have HB1:Hid (W.heap[w.heap.size]?=some (.cells #[.int .i64 op,.slice a1 n1 c1,.int .i64 so,.int .i64 nn,.int .i64 mm,.slice a2 n2 c2] 30 (0,0))):=Lib.hid (by rw [hW];exact alloc_old (new_at w _) _)
 have HB2:Hid (W.heap[w.heap.size+1]?=some (.cells #[.int .i64 0,.slice none 0 0,.int .i64 0,.int .i64 0,.int .i64 0,.slice none 0 0] 30 (0,0))):=Lib.hid (by rw [hW];exact new_at1 w _ _)
 obtain⟨x0,x1,x2,x3,x4,x5⟩:=cells6 HB1.out
 go_enter Tryz.func11,Tryz.ntmps11
 go_wp2_with fail
 simp only [←hW]
 clear hW
 go_wp2_with fail
 refine (HCK.out _ HU.out).mono ?_
 rintro e w1 ⟨rfl,hu1⟩
 have HU1:=Lib.hid (HU.out.trans_ext hu1)
 have HZ1:=Lib.hid (hu1.at HB2.out (by simp))
 clear hu1 x0 x1 x2 x3 x4 x5
 go_wp2_with fail
 refine (HIX.out _ HU1.out).mono ?_
 rintro e w2 ⟨rfl,hu2⟩
 have HU2:=Lib.hid (HU1.out.trans_ext hu2)
 have HZ2:=Lib.hid (hu2.at HZ1.out (by simp))
 clear hu2
 cases hn1:nameF fr with
 | false =>
  obtain⟨y0,y1,y2,y3,y4,y5⟩:=cells6 HZ2.out
  obtain⟨f0,f1,f2,f3,f4,f5⟩:=frees6 HZ2.out
  go_wp2_with fail
  clear y0 y1 y2 y3 y4 y5 f0 f1 f2 f3 f4 f5
  have hst:=nd_store HZ2.out (.int .i64 0) (.slice none 0 0) (.int .i64 0) (.int .i64 0) (.int .i64 0) (.slice none 0 0)
  have hup:=nd_up HU2.out (B:=w.heap.size+1) (Or.inr (by omega)) (.int .i64 0) (.slice none 0 0) (.int .i64 0) (.int .i64 0) (.int .i64 0) (.slice none 0 0)
  obtain⟨q0,q1,q2,q3,q4,q5⟩:=cells6 hst
  exact bodyPost_ret (v:=.tuple #[.agg #[.int .i64 0,.slice none 0 0,.int .i64 0,.int .i64 0,.int .i64 0,.slice none 0 0],.int .i64 3]) (by simp [results,Tryz.results11,go_sem,q0,q1,q2,q3,q4,q5]) rfl ⟨rfl,hup⟩
 | true =>
 have hn2:nameF ta=false:=by have h9:=HNB.out;rw [hn1] at h9;simpa using h9
 go_wp2_with fail
 refine (HIY.out _ HU2.out).mono ?_
 rintro e w3 ⟨rfl,hu3⟩
 have HU3:=Lib.hid (HU2.out.trans_ext hu3)
 have HZ3:=Lib.hid (hu3.at HZ2.out (by simp))
 rw [hn2]
 clear hu3
 obtain⟨y0,y1,y2,y3,y4,y5⟩:=cells6 HZ3.out
 obtain⟨f0,f1,f2,f3,f4,f5⟩:=frees6 HZ3.out
 go_wp2_with fail
 clear y0 y1 y2 y3 y4 y5 f0 f1 f2 f3 f4 f5
 have hst:=nd_store HZ3.out (.int .i64 0) (.slice none 0 0) (.int .i64 0) (.int .i64 0) (.int .i64 0) (.slice none 0 0)
 have hup:=nd_up HU3.out (B:=w.heap.size+1) (Or.inr (by omega)) (.int .i64 0) (.slice none 0 0) (.int .i64 0) (.int .i64 0) (.int .i64 0) (.slice none 0 0)
 obtain⟨q0,q1,q2,q3,q4,q5⟩:=cells6 hst
 exact bodyPost_ret (v:=.tuple #[.agg #[.int .i64 0,.slice none 0 0,.int .i64 0,.int .i64 0,.int .i64 0,.slice none 0 0],.int .i64 3]) (by simp [results,Tryz.results11,go_sem,q0,q1,q2,q3,q4,q5]) rfl ⟨rfl,hup⟩
theorem shareQ0 {P:Program} {k:Code} {a:Act} {w:World} {Q:Exit→Act→World→Prop} {F:World→Prop} {m:Act} (use:∀Q':Exit→Act→World→Prop,(∀u,F u→Q' .normal m u)→k.wp P Q' a w) (tail:∀u,F u→Q .normal m u):k.wp P Q a w:=use Q tail
set_option maxRecDepth 100000 in
set_option maxHeartbeats 12800000 in
theorem scopeRename_walk (nd:Nd) (v:Value) (fr0 ta0:List UInt8) (w:World) (hq:ArgN w nd v) (hfr:fr0.length≤281474976710656) (hta:ta0.length≤281474976710656) (hE:Env w∧SEnv w∧FEnv w) (hpw:PowT w):Calls Tryz.prog 3 #[v,.string ⟨fr0.toArray⟩,.string ⟨ta0.toArray⟩] w fun e w'=>e=.returned (.bool true)∧Upto [] w w':=by
 obtain⟨h,hsz,hin⟩:=hq
 obtain⟨op,a1,n1,c1,so,nn,mm,a2,n2,c2,rfl⟩:=h.six
 obtain⟨W,hW⟩:∃W,W=w.alloc (.cells #[.int .i64 op,.slice a1 n1 c1,.int .i64 so,.int .i64 nn,.int .i64 mm,.slice a2 n2 c2] 25):=⟨_,rfl⟩
 have HU1:Hid (Upto [] w W):=Lib.hid (by rw [hW];exact (Upto.refl [] w).alloc _)
 have HB1:Hid (W.heap[w.heap.size]?=some (.cells #[.int .i64 op,.slice a1 n1 c1,.int .i64 so,.int .i64 nn,.int .i64 mm,.slice a2 n2 c2] 25 (0,0))):=Lib.hid (by rw [hW];exact new_at w _)
 have HEN:=Lib.hid (And.intro hE.1 (And.intro hE.2.2 hpw))
 have HKN:=Lib.hid (fun u (hu:Upto [] w u)=>known12_calls u ⟨hE.1.ext hu,hE.2.1.upto hu (by simp),hE.2.2.ext hu⟩)
 have HSH:=Lib.hid (fun u (hu:Upto [] w u)=>short_calls nd _ u _ (h.ext hu) (by omega))
 have HCK:=Lib.hid (fun u (hu:Upto [] w u)=>checkR_calls nd _ u _ (h.ext hu) (by omega) (inN.mono (by omega) _ hin))
 have HOF:=Lib.hid (fun u (hu:Upto [] w u)=>of_calls 10000000 nd (by omega) (by omega) (inN.big (M:=1048576) (by omega) _ hin) _ _ u (h.ext hu))
 have HND:=Lib.hid (fun u (hu:Upto [] w u)=>h.ext hu)
 have HIN:Hid (inN 10000000 nd∧hugeN nd∧bigN nd):=Lib.hid ⟨inN.mono (by omega) _ hin,huge_of nd (by omega) (inN.big (M:=1048576) (by omega) _ hin),inN.big (M:=1048576) (by omega) _ hin⟩
 have HSS:Hid ((decide (sizeF nd≤60)&&decide (depthF nd≤20))=true→sizeF nd≤60):=Lib.hid (fun hb=>by simp at hb;exact hb.1)
 generalize hS:(decide (sizeF nd≤60)&&decide (depthF nd≤20))=S at *
 obtain⟨C,hC⟩:∃C,C=checkF nameF nd:=⟨_,rfl⟩
 have HCE:=Lib.hid hC
 rw [←hC] at HCK
 obtain⟨fr,hfr1⟩:∃fr,fr=fr0.take 30:=⟨_,rfl⟩
 obtain⟨ta,hta1⟩:∃ta,ta=ta0.take 30:=⟨_,rfl⟩
 have HLF:Hid (fr.length≤30∧ta.length≤30):=Lib.hid ⟨by rw [hfr1,List.length_take];omega,by rw [hta1,List.length_take];omega⟩
 have HE1:Hid (((⟨fr0.toArray⟩:ByteArray).extract 0 (min (fr0.length:Int) 30).toNat)=⟨fr.toArray⟩):=Lib.hid (by rw [hfr1];exact ext_min fr0)
 have HE2:Hid (((⟨ta0.toArray⟩:ByteArray).extract 0 (min (ta0.length:Int) 30).toNat)=⟨ta.toArray⟩):=Lib.hid (by rw [hta1];exact ext_min ta0)
 have hf0:(0:Int)≤fr0.length:=by omega
 have hf1:(fr0.length:Int)≤281474976710656:=by omega
 have ht0:(0:Int)≤ta0.length:=by omega
 have ht1:(ta0.length:Int)≤281474976710656:=by omega
 obtain⟨x0,x1,x2,x3,x4,x5⟩:=cells6 HB1.out
 clear h hsz hin hE hpw hS hC hfr hta hfr1 hta1
 go_enter Tryz.func3,Tryz.ntmps3
 go_wp2_with fail
 simp only [←hW]
 clear hW
 try go_wp2_with fail
 refine (HKN.out _ HU1.out).mono ?_
 rintro e w2 ⟨rfl,hu2⟩
 have HU2:=Lib.hid (HU1.out.trans_ext hu2)
 have HB2:=Lib.hid (hu2.at HB1.out (by simp))
 clear hu2 x0 x1 x2 x3 x4 x5
 obtain⟨x0,x1,x2,x3,x4,x5⟩:=cells6 HB2.out
 go_wp2_with fail
 refine (HSH.out _ HU2.out).mono ?_
 rintro e w3 ⟨rfl,hu3⟩
 have HU3:=Lib.hid (HU2.out.trans_ext hu3)
 have HB3:=Lib.hid (hu3.at HB2.out (by simp))
 clear hu3 x0 x1 x2 x3 x4 x5
 cases S with
 | false =>
  go_wp2_with fail
  go_ret
  exact⟨rfl,HU3.out⟩
 | true =>
 have HS60:=Lib.hid (HSS.out rfl)
 go_wp2_with fail
 apply shareQ0 (F:=fun u=>Hid (Upto [] w3 u))
 case use =>
  intro Q9 hshare
  have HSHV:=Lib.hid hshare
  clear hshare
  go_region
  all_goals
   try simp only [HE1.out,HE2.out]
   exact HSHV.out _ (Lib.hid (Upto.refl [] w3).drew)
 case tail =>
 rintro w4 HV4
 have HU4:=Lib.hid (HU3.out.trans_ext HV4.out)
 have HB4:=Lib.hid (HV4.out.at HB3.out (by simp))
 obtain⟨x0,x1,x2,x3,x4,x5⟩:=cells6 HB4.out
 go_wp2_with fail
 refine (HOF.out _ HU4.out).mono ?_
 rintro e w5 ⟨v5,rfl,hn5,hu5⟩
 obtain⟨xo,xa1,xn1,xc1,xs,xn,xm,xa2,xn2,xc2,rfl⟩:=hn5.six
 have HN5:=Lib.hid hn5
 have HU5:=Lib.hid (HU4.out.trans_ext hu5)
 have HB5:=Lib.hid (hu5.at HB4.out (by simp))
 clear hn5 hu5 x0 x1 x2 x3 x4 x5
 by_cases hc0:¬C=0
 ·have hci:¬(C:Int)=0:=by omega
  have hc1:((C:Int)==0)=false:=by rw [beq_eq_false_iff_ne];exact hci
  have hc2:((C:Int) != 0)=true:=by rw [bne,hc1];rfl
  have hcc:((C:Int)==(C:Int))=true:=beq_self_eq_true _
  have HRB:=Lib.hid (rename11_bad nd fr ta _ _ w5 (HEN.out.1.ext HU5.out) (HEN.out.2.1.ext HU5.out) HN5.out (by have:=HS60.out;omega) HIN.out.1 (by have:=HLF.out;omega) (by have:=HLF.out;omega) (by rw [←HCE.out];exact hc0))
  rw [←HCE.out] at HRB
  clear hc0
  go_wp2_with fail
  refine HRB.out.mono ?_
  rintro e w6 ⟨rfl,hu6⟩
  have HB6:=Lib.hid (hu6.at HB5.out (by simp))
  obtain⟨W7,hW7⟩:∃W7,W7=w6.alloc (.cells #[.int .i64 0,.slice none 0 0,.int .i64 0,.int .i64 0,.int .i64 0,.slice none 0 0] 30):=⟨_,rfl⟩
  have HV7:Hid (Upto [] w6 W7):=Lib.hid (by rw [hW7];exact (Upto.refl [] w6).alloc _)
  have HB7:=Lib.hid (HV7.out.at HB6.out (by simp))
  have HY7:Hid (W7.heap[w6.heap.size]?=some (.cells #[.int .i64 0,.slice none 0 0,.int .i64 0,.int .i64 0,.int .i64 0,.slice none 0 0] 30 (0,0))):=Lib.hid (by rw [hW7];exact new_at w6 _)
  have HU7:=Lib.hid ((HU5.out.trans_ext hu6).trans_ext HV7.out)
  have HBX:Hid ((w6.alloc (.cells #[.int .i64 0,.slice none 0 0,.int .i64 0,.int .i64 0,.int .i64 0,.slice none 0 0] 30)).heap[w.heap.size]?=some (.cells #[.int .i64 op,.slice a1 n1 c1,.int .i64 so,.int .i64 nn,.int .i64 mm,.slice a2 n2 c2] 25 (0,0))):=Lib.hid (by rw [←hW7];exact HB7.out)
  clear hu6
  obtain⟨x0,x1,x2,x3,x4,x5⟩:=cells6 HBX.out
  go_wp2_with fail
  simp only [←hW7]
  clear hW7 HBX x0 x1 x2 x3 x4 x5
  refine (HCK.out _ HU7.out).mono ?_
  rintro e w8 ⟨rfl,hu8⟩
  have HU8:=Lib.hid (HU7.out.trans_ext hu8)
  have HB8:=Lib.hid (hu8.at HB7.out (by simp))
  have HY8:=Lib.hid (hu8.at HY7.out (by simp))
  have HV8:=Lib.hid (HV7.out.trans_ext hu8)
  clear hu8
  have HBK:=Lib.hid (back_calls 60 .zero (by unfold Nd.zero;simp [sizeF,sizesF]) (by omega) (by unfold Nd.zero bigN bigsN;simp) _ _ w8 (NdV.zero w8 AnyB))
  obtain⟨y0,y1,y2,y3,y4,y5⟩:=cells6 HY8.out
  go_wp2_with fail
  refine HBK.out.mono ?_
  rintro e wk ⟨vk,rfl,hnk,huk⟩
  have HSK:=Lib.hid (sameN_calls 60 .zero (by unfold Nd.zero;simp [sizeF,sizesF]) (by unfold Nd.zero hugeN hugesN;simp) .zero _ AnyB vk zeroV wk hnk (NdV.zero wk AnyB))
  rw [(sameF_eq .zero .zero).2 rfl] at HSK
  have HUK:=Lib.hid (HU8.out.trans_ext huk)
  clear hnk huk y0 y1 y2 y3 y4 y5
  go_wp2_with fail
  refine HSK.out.mono ?_
  rintro e wl ⟨rfl,hul⟩
  have HUL:=Lib.hid (HUK.out.trans_ext hul)
  clear hul
  go_wp2_with fail
  go_ret
  exact⟨rfl,HUL.out⟩
 have hc1:=Decidable.not_not.1 hc0
 clear hc0
 subst hc1
 have HCZ:Hid (checkF nameF nd=0):=Lib.hid HCE.out.symm
 have HI1:=Lib.hid (fun u=>isName_calls fr u (by have:=HLF.out;omega))
 have HI2:=Lib.hid (fun u=>isName_calls ta u (by have:=HLF.out;omega))
 cases hnm:(nameF fr&&nameF ta) with
 | false =>
  have HRB:=Lib.hid (rename11_names nd fr ta _ _ w5 (HEN.out.1.ext HU5.out) (HEN.out.2.1.ext HU5.out) HN5.out (by have:=HS60.out;omega) HIN.out.1 (by have:=HLF.out;omega) (by have:=HLF.out;omega) HCZ.out hnm)
  have HNB:=Lib.hid hnm
  clear hnm
  go_wp2_with fail
  refine HRB.out.mono ?_
  rintro e w6 ⟨rfl,hu6⟩
  have HB6:=Lib.hid (hu6.at HB5.out (by simp))
  obtain⟨W7,hW7⟩:∃W7,W7=w6.alloc (.cells #[.int .i64 0,.slice none 0 0,.int .i64 0,.int .i64 0,.int .i64 0,.slice none 0 0] 30):=⟨_,rfl⟩
  have HV7:Hid (Upto [] w6 W7):=Lib.hid (by rw [hW7];exact (Upto.refl [] w6).alloc _)
  have HB7:=Lib.hid (HV7.out.at HB6.out (by simp))
  have HY7:Hid (W7.heap[w6.heap.size]?=some (.cells #[.int .i64 0,.slice none 0 0,.int .i64 0,.int .i64 0,.int .i64 0,.slice none 0 0] 30 (0,0))):=Lib.hid (by rw [hW7];exact new_at w6 _)
  have HU7:=Lib.hid ((HU5.out.trans_ext hu6).trans_ext HV7.out)
  have HBX:Hid ((w6.alloc (.cells #[.int .i64 0,.slice none 0 0,.int .i64 0,.int .i64 0,.int .i64 0,.slice none 0 0] 30)).heap[w.heap.size]?=some (.cells #[.int .i64 op,.slice a1 n1 c1,.int .i64 so,.int .i64 nn,.int .i64 mm,.slice a2 n2 c2] 25 (0,0))):=Lib.hid (by rw [←hW7];exact HB7.out)
  clear hu6
  obtain⟨x0,x1,x2,x3,x4,x5⟩:=cells6 HBX.out
  go_wp2_with fail
  simp only [←hW7]
  clear hW7 HBX x0 x1 x2 x3 x4 x5
  refine (HCK.out _ HU7.out).mono ?_
  rintro e w8 ⟨rfl,hu8⟩
  have HU8:=Lib.hid (HU7.out.trans_ext hu8)
  have HB8:=Lib.hid (hu8.at HB7.out (by simp))
  have HY8:=Lib.hid (hu8.at HY7.out (by simp))
  have HV8:=Lib.hid (HV7.out.trans_ext hu8)
  clear hu8
  cases hn1:nameF fr with
  | false =>
   go_wp2_with fail
   refine (HI1.out _).mono ?_
   rintro e w9 ⟨rfl,hu9⟩
   rw [hn1]
   have HU9:=Lib.hid (HU8.out.trans_ext hu9)
   have HY9:=Lib.hid (hu9.at HY8.out (by simp))
   clear hu9
   have HBK:=Lib.hid (back_calls 60 .zero (by unfold Nd.zero;simp [sizeF,sizesF]) (by omega) (by unfold Nd.zero bigN bigsN;simp) _ _ w9 (NdV.zero w9 AnyB))
   obtain⟨y0,y1,y2,y3,y4,y5⟩:=cells6 HY9.out
   go_wp2_with fail
   refine HBK.out.mono ?_
   rintro e wk ⟨vk,rfl,hnk,huk⟩
   have HSK:=Lib.hid (sameN_calls 60 .zero (by unfold Nd.zero;simp [sizeF,sizesF]) (by unfold Nd.zero hugeN hugesN;simp) .zero _ AnyB vk zeroV wk hnk (NdV.zero wk AnyB))
   rw [(sameF_eq .zero .zero).2 rfl] at HSK
   have HUK:=Lib.hid (HU9.out.trans_ext huk)
   clear hnk huk y0 y1 y2 y3 y4 y5
   go_wp2_with fail
   refine HSK.out.mono ?_
   rintro e wl ⟨rfl,hul⟩
   have HUL:=Lib.hid (HUK.out.trans_ext hul)
   clear hul
   go_wp2_with fail
   go_ret
   exact⟨rfl,HUL.out⟩
  | true =>
   have hn2:nameF ta=false:=by have h9:=HNB.out;rw [hn1] at h9;simpa using h9
   go_wp2_with fail
   refine (HI1.out _).mono ?_
   rintro e w9 ⟨rfl,hu9⟩
   rw [hn1]
   go_wp2_with fail
   refine (HI2.out _).mono ?_
   rintro e w10 ⟨rfl,hu10⟩
   rw [hn2]
   have HU10:=Lib.hid ((HU8.out.trans_ext hu9).trans_ext hu10)
   have HY10:=Lib.hid ((hu9.trans_ext hu10).at HY8.out (by simp))
   clear hu9 hu10
   have HBK:=Lib.hid (back_calls 60 .zero (by unfold Nd.zero;simp [sizeF,sizesF]) (by omega) (by unfold Nd.zero bigN bigsN;simp) _ _ w10 (NdV.zero w10 AnyB))
   obtain⟨y0,y1,y2,y3,y4,y5⟩:=cells6 HY10.out
   go_wp2_with fail
   refine HBK.out.mono ?_
   rintro e wk ⟨vk,rfl,hnk,huk⟩
   have HSK:=Lib.hid (sameN_calls 60 .zero (by unfold Nd.zero;simp [sizeF,sizesF]) (by unfold Nd.zero hugeN hugesN;simp) .zero _ AnyB vk zeroV wk hnk (NdV.zero wk AnyB))
   rw [(sameF_eq .zero .zero).2 rfl] at HSK
   have HUK:=Lib.hid (HU10.out.trans_ext huk)
   clear hnk huk y0 y1 y2 y3 y4 y5
   go_wp2_with fail
   refine HSK.out.mono ?_
   rintro e wl ⟨rfl,hul⟩
   have HUL:=Lib.hid (HUK.out.trans_ext hul)
   clear hul
   go_wp2_with fail
   go_ret
   exact⟨rfl,HUL.out⟩
 | true =>
  have hn1:nameF fr=true:=by cases h1:nameF fr<;>simp [h1] at hnm ⊢
  have hn2:nameF ta=true:=by cases h1:nameF ta<;>simp [h1] at hnm ⊢
  have HNN:=Lib.hid (And.intro hn1 hn2)
  have HSM:=Lib.hid (small_of HS60.out HCZ.out)
  have HRN:=Lib.hid (rename11n_calls nd fr ta _ _ w5 (HEN.out.1.ext HU5.out) (HEN.out.2.1.ext HU5.out) (HEN.out.2.2.ext HU5.out) HN5.out HS60.out HIN.out.1 HCZ.out hn1 hn2)
  have HRE:Hid ((if fr=ta then nd else renF (depthF nd) fr ta nd)=renF (depthF nd) fr ta nd):=Lib.hid (by
   split
   ·rename_i h1
    rw [←h1,ren_eq (depthF nd) fr nd HSM.out.1]
   ·rfl)
  rw [HRE.out] at HRN
  have HYS:=Lib.hid (ren_small (fr:=fr) HS60.out HCZ.out hn2)
  rw [hn1] at HI1
  rw [hn2] at HI2
  have HRR:Hid (∀u,Upto [] w u→Calls Tryz.prog 17 #[.agg #[.int .i64 op,.slice a1 n1 c1,.int .i64 so,.int .i64 nn,.int .i64 mm,.slice a2 n2 c2],.string ⟨fr.toArray⟩,.string ⟨ta.toArray⟩] u (RrPost AnyB u (renF (depthF nd) fr ta nd))):=Lib.hid (fun u hu=>renR_calls (depthF nd) fr ta HNN.out.2 nd _ _ u ⟨HND.out u hu,Nat.le_refl _,form_of_check HCZ.out,by have h1:=HSM.out.2.2;have h2:=HS60.out;omega⟩)
  generalize renF (depthF nd) fr ta nd=Y at *
  clear hnm hn1 hn2
  go_wp2_with fail
  refine HRN.out.mono ?_
  rintro e w6 ⟨v6,rfl,ho6,hu6⟩
  obtain⟨yo,ya1,yn1,yc1,ys,yn,ym,ya2,yn2,yc2,rfl⟩:=(ho6.ndv _ _ _ _).six
  have HN6:=Lib.hid (ho6.ndv _ _ _ _)
  have HB6:=Lib.hid (hu6.at HB5.out (by simp))
  obtain⟨W7,hW7⟩:∃W7,W7=w6.alloc (.cells #[.int .i64 yo,.slice ya1 yn1 yc1,.int .i64 ys,.int .i64 yn,.int .i64 ym,.slice ya2 yn2 yc2] 30):=⟨_,rfl⟩
  have HV7:Hid (Upto [] w6 W7):=Lib.hid (by rw [hW7];exact (Upto.refl [] w6).alloc _)
  have HB7:=Lib.hid (HV7.out.at HB6.out (by simp))
  have HY7:Hid (W7.heap[w6.heap.size]?=some (.cells #[.int .i64 yo,.slice ya1 yn1 yc1,.int .i64 ys,.int .i64 yn,.int .i64 ym,.slice ya2 yn2 yc2] 30 (0,0))):=Lib.hid (by rw [hW7];exact new_at w6 _)
  have HU7:=Lib.hid ((HU5.out.trans_ext hu6).trans_ext HV7.out)
  have HBX:Hid ((w6.alloc (.cells #[.int .i64 yo,.slice ya1 yn1 yc1,.int .i64 ys,.int .i64 yn,.int .i64 ym,.slice ya2 yn2 yc2] 30)).heap[w.heap.size]?=some (.cells #[.int .i64 op,.slice a1 n1 c1,.int .i64 so,.int .i64 nn,.int .i64 mm,.slice a2 n2 c2] 25 (0,0))):=Lib.hid (by rw [←hW7];exact HB7.out)
  clear ho6
  obtain⟨x0,x1,x2,x3,x4,x5⟩:=cells6 HBX.out
  go_wp2_with fail
  simp only [←hW7]
  clear hW7 HBX x0 x1 x2 x3 x4 x5
  refine (HCK.out _ HU7.out).mono ?_
  rintro e w8 ⟨rfl,hu8⟩
  have HU8:=Lib.hid (HU7.out.trans_ext hu8)
  have HB8:=Lib.hid (hu8.at HB7.out (by simp))
  have HY8:=Lib.hid (hu8.at HY7.out (by simp))
  have HV8:=Lib.hid (HV7.out.trans_ext hu8)
  clear hu8
  go_wp2_with fail
  refine (HI1.out _).mono ?_
  rintro e w9 ⟨rfl,hu9⟩
  go_wp2_with fail
  refine (HI2.out _).mono ?_
  rintro e w10 ⟨rfl,hu10⟩
  have hu810:=hu9.trans_ext hu10
  have HU10:=Lib.hid (HU8.out.trans_ext hu810)
  have HY10:=Lib.hid (hu810.at HY8.out (by simp))
  have HB10:=Lib.hid (hu810.at HB8.out (by simp))
  have HBK:Hid (∀u,Upto [] w10 u→Calls Tryz.prog 16 #[.agg #[.int .i64 yo,.slice ya1 yn1 yc1,.int .i64 ys,.int .i64 yn,.int .i64 ym,.slice ya2 yn2 yc2]] u (BkPost u Y)):=Lib.hid (fun u hu=>back_calls 60 Y HYS.out.1 (by omega) (inN.big (M:=10000000) (by omega) _ HYS.out.2.2.1) _ _ u (HN6.out.ext ((HV8.out.trans_ext hu810).trans_ext hu)))
  have HSA:Hid (∀(v1 v2:Value) u,(∃P,NdV u P Y v1)→(∃P,NdV u P Y v2)→Calls Tryz.prog 15 #[v1,v2] u fun e w'=>e=.returned (.bool true)∧Upto [] u w'):=Lib.hid (fun v1 v2 u ⟨P1,h1⟩ ⟨P2,h2⟩=>by
   have:=sameN_calls 60 Y HYS.out.1 (huge_of Y (by have:=HYS.out.1;omega) (inN.big (M:=10000000) (by omega) _ HYS.out.2.2.1)) Y P1 P2 v1 v2 u h1 h2
   rw [(sameF_eq Y Y).2 rfl] at this
   exact this)
  clear hu6 hu9 hu10 hu810
  go_wp2_with fail
  have k0:∀u:Ext w10,u.w.cell? ⟨w6.heap.size,0,none⟩=some (.int .i64 yo):=fun u=>u.cell (cell_of HY10.out 0)
  have k1:∀u:Ext w10,u.w.cell? ⟨w6.heap.size,1,none⟩=some (.slice ya1 yn1 yc1):=fun u=>u.cell (cell_of HY10.out 1)
  have k2:∀u:Ext w10,u.w.cell? ⟨w6.heap.size,2,none⟩=some (.int .i64 ys):=fun u=>u.cell (cell_of HY10.out 2)
  have k3:∀u:Ext w10,u.w.cell? ⟨w6.heap.size,3,none⟩=some (.int .i64 yn):=fun u=>u.cell (cell_of HY10.out 3)
  have k4:∀u:Ext w10,u.w.cell? ⟨w6.heap.size,4,none⟩=some (.int .i64 ym):=fun u=>u.cell (cell_of HY10.out 4)
  have k5:∀u:Ext w10,u.w.cell? ⟨w6.heap.size,5,none⟩=some (.slice ya2 yn2 yc2):=fun u=>u.cell (cell_of HY10.out 5)
  have nb0:∀u:Ext w10,u.w.cell? ⟨w.heap.size,0,none⟩=some (.int .i64 op):=fun u=>u.cell (cell_of HB10.out 0)
  have nb1:∀u:Ext w10,u.w.cell? ⟨w.heap.size,1,none⟩=some (.slice a1 n1 c1):=fun u=>u.cell (cell_of HB10.out 1)
  have nb2:∀u:Ext w10,u.w.cell? ⟨w.heap.size,2,none⟩=some (.int .i64 so):=fun u=>u.cell (cell_of HB10.out 2)
  have nb3:∀u:Ext w10,u.w.cell? ⟨w.heap.size,3,none⟩=some (.int .i64 nn):=fun u=>u.cell (cell_of HB10.out 3)
  have nb4:∀u:Ext w10,u.w.cell? ⟨w.heap.size,4,none⟩=some (.int .i64 mm):=fun u=>u.cell (cell_of HB10.out 4)
  have nb5:∀u:Ext w10,u.w.cell? ⟨w.heap.size,5,none⟩=some (.slice a2 n2 c2):=fun u=>u.cell (cell_of HB10.out 5)
  refine wp_region_seg_at [4,8,9] [] [0,1,2,3,4,5,6,7,8,9,10] [11] 11 (by kernel_rfl) (by kernel_rfl) (by kernel_rfl) ?_
  iterate 4 (refine seg_plain rfl rfl rfl rfl rfl ?_;intro K' hK';go_big_quiet_op;go_big_quiet_on)
  refine seg_callO (Y:=Value) (fun v=>v) (fun v u=>∃P,NdV u P Y v) (fun _=>[]) rfl rfl rfl rfl (fun _ _ _ ⟨P,h⟩ hu=>⟨P,h.ext hu⟩) (fun _=>List.nodup_nil) (fun w=>by go_simp) (fun w hu hd=>(HBK.out w hu).mono fun e w' ⟨v,h1,h2,h3⟩=>⟨v,h1,h3,⟨_,h2⟩,fun b hb=>by cases hb⟩) ?_
  intro vk
  simp only [Act.put,List.setIfInBounds_toArray,List.set_cons_zero,List.set_cons_succ]
  iterate 3 (refine seg_plain rfl rfl rfl rfl rfl ?_;intro K' hK';go_big_quiet_op;go_big_quiet_on)
  refine seg_callO (Y:=Value) (fun v=>v) (fun v u=>∃P,NdV u P Y v) (fun _=>[]) rfl rfl rfl rfl (fun _ _ _ ⟨P,h⟩ hu=>⟨P,h.ext hu⟩) (fun _=>List.nodup_nil) (fun w=>by go_simp) (fun w hu hd=>(HRR.out w (HU10.out.trans_ext hu)).mono fun e w' ⟨v,h1,h2,h3⟩=>⟨v,h1,h3,⟨_,h2⟩,fun b hb=>by cases hb⟩) ?_
  intro vr
  simp only [Act.put,List.setIfInBounds_toArray,List.set_cons_zero,List.set_cons_succ]
  refine seg_call (v:=.bool true) rfl rfl rfl rfl (fun w=>by go_simp) (fun w hu hd=>HSA.out vk vr w (hd.2.1 (by kernel_rfl)) (hd.1 (by kernel_rfl))) ?_
  simp only [Act.put,List.setIfInBounds_toArray,List.set_cons_zero,List.set_cons_succ]
  (refine seg_plain rfl rfl rfl rfl rfl ?_;intro K' hK';go_big_quiet_op;go_big_quiet_on)
  intro w16 hg
  have HU16:=Lib.hid (HU10.out.trans_ext hg.up)
  simp only [List.drop_succ_cons,List.drop_zero]
  clear hg k0 k1 k2 k3 k4 k5 nb0 nb1 nb2 nb3 nb4 nb5
  go_wp2_with fail
  go_ret
  exact⟨rfl,HU16.out⟩
end Go.Proofs.YtbnebkkpmcjmbaaGreatDoor
