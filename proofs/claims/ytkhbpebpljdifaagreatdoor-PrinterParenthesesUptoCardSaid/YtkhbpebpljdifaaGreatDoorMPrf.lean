/- Merged texts. -/
import Derived.Test.YtkhbpebpljdifaaGreatDoorMPre
set_option maxRecDepth 100000
set_option maxHeartbeats 25600000
namespace Go.Proofs.YtkhbpebpljdifaaGreatDoor
open Go.RowKit Go.PL Go.Maps
def kGx (qp:List Tok→Option (Qn×PS)) (x:List UInt8):PR :=
 match lexT x with
 | .error (a,b,c)=>⟨.zero,a,b,c⟩
 | .ok ts=>match qp ts with
  | some (q,s')=>endF ts q s'
  | none=>⟨.zero,0,0,0⟩
def PRPost (w:World) (r:PR) (e:Ending) (w':World):Prop :=
 ∃v,e=.returned (.tuple #[v,.agg #[.int .i64 r.line,.int .i64 r.col],.int .i64 r.er])∧QnV w' (New w) r.q v∧Upto [] w w'
theorem PRPost.drew {w w':World} {r:PR} {e:Ending} (h:PRPost w r e w'):PRPost w r e w'.drew:=by
 obtain⟨v,he,hq,hu⟩:=h
 exact⟨v,he,QnV.keep (w:=w') (w':=w'.drew) ⟨Nat.le_refl _,fun b hb _=>⟨hb,rfl⟩⟩ hq,hu.drew⟩
theorem p_store {w:World} {B:Nat} {x0 x1:Value} {T:TypeId} (h:w.heap[B]?=some (.cells #[x0,x1] T (0,0))) (a b:Value):((w.setCell ⟨B,0,none⟩ a).setCell ⟨B,1,none⟩ b).heap[B]?=some (.cells #[a,b] T (0,0)):=by
 have:=kCw (kCw h 0 a) 1 b
 simpa using this
theorem kWk {w W:World} {Bq Bp:Nat} {r:PR} {q:Qn} {P:Nat→Prop} {a b c d e f g x0 x1 x2 x3 x4 x5 x6 y0 y1 l1 c1:Value} {li ci ei:Int} (hu:Upto [] w W) (hBq:w.heap.size≤Bq) (hBp:w.heap.size≤Bp) (hne:Bq≠Bp) (hq:QnV W P q (.agg #[a,b,c,d,e,f,g]))
  (hP:∀b,P b→IsC W b→New w b∧b≠Bq∧b≠Bp) (hz:W.heap[Bq]?=some (.cells #[x0,x1,x2,x3,x4,x5,x6] 48 (0,0))) (hy:W.heap[Bp]?=some (.cells #[y0,y1] 36 (0,0))) (hl:l1=.int .i64 li) (hc:c1=.int .i64 ci) (hr:r.q=q∧(r.line:Int)=li∧(r.col:Int)=ci∧(r.er:Int)=ei) :
  PRPost w r (.returned (.tuple #[.agg #[a,b,c,d,e,f,g],.agg #[l1,c1],.int .i64 ei])) (((((((((W.setCell ⟨Bq,0,none⟩ a).setCell ⟨Bq,1,none⟩ b).setCell ⟨Bq,2,none⟩ c).setCell ⟨Bq,3,none⟩ d).setCell ⟨Bq,4,none⟩ e).setCell ⟨Bq,5,none⟩ f).setCell ⟨Bq,6,none⟩ g).setCell ⟨Bp,0,none⟩ l1).setCell ⟨Bp,1,none⟩ c1) ∧
  (((((((((W.setCell ⟨Bq,0,none⟩ a).setCell ⟨Bq,1,none⟩ b).setCell ⟨Bq,2,none⟩ c).setCell ⟨Bq,3,none⟩ d).setCell ⟨Bq,4,none⟩ e).setCell ⟨Bq,5,none⟩ f).setCell ⟨Bq,6,none⟩ g).setCell ⟨Bp,0,none⟩ l1).setCell ⟨Bp,1,none⟩ c1).heap[Bq]?=some (.cells #[a,b,c,d,e,f,g] 48 (0,0))∧(((((((((W.setCell ⟨Bq,0,none⟩ a).setCell ⟨Bq,1,none⟩ b).setCell ⟨Bq,2,none⟩ c).setCell ⟨Bq,3,none⟩ d).setCell ⟨Bq,4,none⟩ e).setCell ⟨Bq,5,none⟩ f).setCell ⟨Bq,6,none⟩ g).setCell ⟨Bp,0,none⟩ l1).setCell ⟨Bp,1,none⟩ c1).heap[Bp]?=some (.cells #[l1,c1] 36 (0,0)):=by
 have h7:=q_store hz a b c d e f g
 have u7:=q_self W Bq a b c d e f g
 have hy7:=u7.at hy (by simp;omega)
 have u2:Upto [Bp] (((((((W.setCell ⟨Bq,0,none⟩ a).setCell ⟨Bq,1,none⟩ b).setCell ⟨Bq,2,none⟩ c).setCell ⟨Bq,3,none⟩ d).setCell ⟨Bq,4,none⟩ e).setCell ⟨Bq,5,none⟩ f).setCell ⟨Bq,6,none⟩ g) (((((((((W.setCell ⟨Bq,0,none⟩ a).setCell ⟨Bq,1,none⟩ b).setCell ⟨Bq,2,none⟩ c).setCell ⟨Bq,3,none⟩ d).setCell ⟨Bq,4,none⟩ e).setCell ⟨Bq,5,none⟩ f).setCell ⟨Bq,6,none⟩ g).setCell ⟨Bp,0,none⟩ l1).setCell ⟨Bp,1,none⟩ c1):=((Upto.refl _ _).setCell (Or.inl (by simp)) _).setCell (Or.inl (by simp)) _
 have h2:=p_store hy7 l1 c1
 have hsz:=u7.size
 obtain⟨rfl,rfl,rfl,rfl⟩:=hr
 subst hl hc
 refine⟨⟨_,rfl,hq.keep ⟨Nat.le_trans u7.size u2.size,fun b hb hl=>?_⟩,((q_up hu (Or.inr hBq) a b c d e f g).setCell (Or.inr (by simpa using hBp)) _).setCell (Or.inr (by simpa using hBp)) _⟩,u2.at h7 (by simpa using hne),h2⟩
 obtain⟨k1,k2,k3⟩:=hP b hb hl
 exact⟨k1,(u2.block b (Nat.lt_of_lt_of_le hl.lt u7.size) (by simpa using k3)).trans (u7.block b hl.lt (by simpa using k2))⟩
theorem text_le_sum {l:List Tok} {t:Tok} (h:t∈l):t.text.length≤(l.map fun t=>t.text.length).sum:=by
 induction l with
 | nil=>cases h
 | cons a l ih =>
  rw [List.map_cons,List.sum_cons]
  rcases List.mem_cons.1 h with rfl | h
  ·omega
  ·have:=ih h
   omega
theorem read_calls (x:List UInt8) (hl:x.length≤281474976710656) (k:FuncId) (qp:List Tok→Option (Qn×PS)) (w:World) (he:Env w) (hs:SEnv w) (hk:∀args w,(callFunc k args).run Tryz.prog w=.ok (.enter k args) w)
  (hq:∀l,Fin l→0<l.length→∃q s',qp l=some (q,s')∧Adv l ⟨0,0,0⟩ s'∧kCz q.body≤2*l.length+1)
  (hby:∀w p l q s',(∀t∈l,t.text.length≤65536)→Cx w p l→RdAt w p l ⟨0,0,0⟩→qp l=some (q,s')→Calls Tryz.prog k #[.pointer (some ⟨p,0,none⟩)] w (QPost w p l ⟨0,0,0⟩ q s')) :
  Calls Tryz.prog 56 #[.string ⟨x.toArray⟩,.func (.func k) #[] #[]] w (PRPost w (kGx qp x)):=by
 have hu0:Upto [] w ((w.alloc (.cells #[.slice none 0 0,.int .i64 0,.slice none 0 0,.int .i64 0,.int .i64 0,.int .i64 0,.slice none 0 0] 48)).alloc (.cells #[.int .i64 0,.int .i64 0] 36)):=((Upto.refl [] w).alloc _).alloc _
 have HU0:=Lib.hid hu0
 have HBQ:Hid (((w.alloc (.cells #[.slice none 0 0,.int .i64 0,.slice none 0 0,.int .i64 0,.int .i64 0,.int .i64 0,.slice none 0 0] 48)).alloc (.cells #[.int .i64 0,.int .i64 0] 36)).heap[w.heap.size]?=some (.cells #[.slice none 0 0,.int .i64 0,.slice none 0 0,.int .i64 0,.int .i64 0,.int .i64 0,.slice none 0 0] 48 (0,0))):=Lib.hid (kCx (kAq _ _) _)
 have HBP:Hid (((w.alloc (.cells #[.slice none 0 0,.int .i64 0,.slice none 0 0,.int .i64 0,.int .i64 0,.int .i64 0,.slice none 0 0] 48)).alloc (.cells #[.int .i64 0,.int .i64 0] 36)).heap[w.heap.size+1]?=some (.cells #[.int .i64 0,.int .i64 0] 36 (0,0))):=Lib.hid (kFz _ _ _)
 have HS:=Lib.hid hs
 have hen:=he.ext hu0
 cases hx:lexT x with
 | error r =>
  obtain⟨a,b,c⟩:=r
  have HC:=Lib.hid (tok_err hx hl a b c rfl rfl rfl _ hen)
  have hc0:=lexT_err hx
  have HR:Hid (kGx qp x=⟨.zero,a,b,c⟩):=Lib.hid (by unfold kGx;rw [hx])
  have k1:((c:Int) != 0)=true:=by rw [bne,show ((c:Int)==0)=false by rw [beq_eq_false_iff_ne];omega];rfl
  clear hx hc0 hen he hs hq hby hu0
  go_enter Tryz.func56,Tryz.ntmps56
  go_wp2_with fail
  refine HC.out.mono ?_
  rintro e w2 ⟨rfl,hu2⟩
  have HSZ:Hid (w.heap.size<w2.heap.size∧w.heap.size+1<w2.heap.size):=Lib.hid ⟨kAk (hu2.at HBQ.out (by simp)),kAk (hu2.at HBP.out (by simp))⟩
  have hua:=((Upto.refl [] w2).alloc (.cells #[.int .i64 a,.int .i64 b] 36))
  have hbq:=hua.at (hu2.at HBQ.out (by simp)) (by simp)
  have hbp:=hua.at (hu2.at HBP.out (by simp)) (by simp)
  have hat:((w2.alloc (.cells #[.int .i64 a,.int .i64 b] 36))).heap[w2.heap.size]?=some (.cells #[.int .i64 a,.int .i64 b] 36 (0,0)):=kAq _ _
  obtain⟨z0,z1,z2,z3,z4,z5,z6⟩:=kBw hbq
  obtain⟨y0,y1,y2,y3,y4,y5,y6⟩:=kRk hbq
  obtain⟨d0,d1⟩:=kKx hbp
  obtain⟨f0,f1⟩:=kRz hbp
  obtain⟨h0,h1⟩:=kKx hat
  obtain⟨i0,i1⟩:=kRz hat
  have hbqd:=((Upto.refl [] _).drew).at hbq (by simp)
  obtain⟨zz0,zz1,zz2,zz3,zz4,zz5,zz6⟩:=kBw hbqd
  obtain⟨yy0,yy1,yy2,yy3,yy4,yy5,yy6⟩:=kRk hbqd
  clear hbqd
  have hbpd:=((Upto.refl [] _).drew).at hbp (by simp)
  obtain⟨dd0,dd1⟩:=kKx hbpd
  obtain⟨ff0,ff1⟩:=kRz hbpd
  clear hbpd
  have hatd:=((Upto.refl [] _).drew).at hat (by simp)
  obtain⟨hh0,hh1⟩:=kKx hatd
  obtain⟨ii0,ii1⟩:=kRz hatd
  clear hatd
  have n1:w.heap.size≠w2.heap.size:=by have:=HSZ.out;omega
  have n2:w.heap.size+1≠w2.heap.size:=by have:=HSZ.out;omega
  have n3:w2.heap.size≠w.heap.size:=n1.symm
  have n4:w2.heap.size≠w.heap.size+1:=n2.symm
  have HF:=Lib.hid (kWk (q:=.zero) (r:=kGx qp x) (P:=fun _=>False) (li:=a) (ci:=b) (ei:=c) ((HU0.out.trans_ext hu2).trans_ext hua) (Nat.le_refl _) (by omega:w.heap.size≤w.heap.size+1) (by omega) (QnV.zero _ _) (fun b hb=>hb.elim) hbq hbp rfl rfl (by rw [HR.out];exact⟨rfl,rfl,rfl,rfl⟩))
  clear hua hbq hbp hat hu2
  go_wp2_with fail
  go_region
  all_goals (
   go_wp2_with fail
   have hb7:=((Upto.refl [] _).drew).at HF.out.2.1 (by simp)
   have hb2:=((Upto.refl [] _).drew).at HF.out.2.2 (by simp)
   have q0:=kAz hb7 0
   have q1:=kAz hb7 1
   have q2:=kAz hb7 2
   have q3:=kAz hb7 3
   have q4:=kAz hb7 4
   have q5:=kAz hb7 5
   have q6:=kAz hb7 6
   have p0:=kAz hb2 0
   have p1:=kAz hb2 1
   simp only [List.getElem?_toArray,List.getElem?_cons_zero,List.getElem?_cons_succ] at q0 q1 q2 q3 q4 q5 q6 p0 p1
   exact bodyPost_ret (v:=.tuple #[.agg #[.slice none 0 0,.int .i64 0,.slice none 0 0,.int .i64 0,.int .i64 0,.int .i64 0,.slice none 0 0],.agg #[.int .i64 a,.int .i64 b],.int .i64 c]) (by simp [results,Tryz.results56,go_sem,q0,q1,q2,q3,q4,q5,q6,p0,p1]) rfl HF.out.1.drew)
 | ok ts =>
  have HC:=Lib.hid (tok_ok hx hl _ hen)
  obtain⟨hf,h0,hlen1,hlen2,hsum,-,-⟩:=lexT_fin hx
  obtain⟨q,s',hqp,had,hsz⟩:=hq ts hf h0
  have htx:∀t∈ts,t.text.length≤65536:=fun t ht=>by have:=text_le_sum ht;omega
  have HRF:Hid (kGx qp x=endF ts q s'):=Lib.hid (by unfold kGx;rw [hx];simp only;rw [hqp])
  have HQS:Hid (kCz q.body≤10000000):=Lib.hid (by omega)
  have HFI:=Lib.hid hf
  have HBY:=Lib.hid (fun w p (hX:Cx w p ts) (hR:RdAt w p ts ⟨0,0,0⟩)=>hby w p ts q s' htx hX hR hqp)
  have HLN:=Lib.hid (And.intro h0 (show ts.length≤1000000 by omega))
  obtain⟨tk,tx,tv,tl,tc,hT⟩:∃tk tx tv tl tc,tkAt ts s'=⟨tk,tx,tv,tl,tc⟩:=⟨_,_,_,_,_,rfl⟩
  have HTK:=Lib.hid hT
  have hfd:∀u,(Instr.field 83 (.agg #[.int .i64 tk,.string ⟨tx.toArray⟩,.int .i64 tv,.int .i64 tl,.int .i64 tc]) 0).run Tryz.prog u=.ok (.int .i64 tk) u:=fun _=>by kernel_rfl
  have hfp:∀u,(Instr.field 83 (.agg #[.int .i64 tk,.string ⟨tx.toArray⟩,.int .i64 tv,.int .i64 tl,.int .i64 tc]) 3).run Tryz.prog u=.ok (.agg #[.int .i64 tl,.int .i64 tc]) u:=fun _=>by kernel_rfl
  clear hx hen he hs hq hby hu0 hf h0 hlen1 hlen2 hsum hqp had hsz htx hT
  by_cases h1:tk=0
  ·have k1:((tk:Int) != 0)=false:=by rw [bne,show ((tk:Int)==0)=true by simp [h1]];rfl
   have HS1:Hid (kGx qp x=if s'.er=0 then (if kIz q.body=0 then ⟨q,0,0,0⟩ else ⟨.zero,0,0,kIz q.body⟩) else ⟨.zero,tl,tc,s'.er⟩):=Lib.hid (by rw [HRF.out];unfold endF;simp only [HTK.out,h1,if_true])
   obtain⟨s1,hs1,hnx1⟩:∃s1,s1=s'∧s1.nx=s'.nx:=⟨s',rfl,rfl⟩
   clear h1
   rw [←hs1] at HS1
   have HT1:Hid (tkAt ts s1=⟨tk,tx,tv,tl,tc⟩):=Lib.hid (by have h:=HTK.out;unfold tkAt at h ⊢;rw [hnx1];exact h)
   have HSE:=Lib.hid hs1
   clear hs1 hnx1
   by_cases h2:s1.er=0
   ·have k2:((s1.er:Int) != 0)=false:=by rw [bne,show ((s1.er:Int)==0)=true by simp [h2]];rfl
    by_cases h3:kIz q.body=0
    ·have k3:((kIz q.body:Int) != 0)=false:=by rw [bne,show ((kIz q.body:Int)==0)=true by simp [h3]];rfl
     have HR:Hid (kGx qp x=⟨q,0,0,0⟩):=Lib.hid (by rw [HS1.out,if_pos h2,if_pos h3])
     clear h2 h3
     go_enter Tryz.func56,Tryz.ntmps56
     go_wp2_with fail
     refine HC.out.mono ?_
     rintro e w2 ⟨tvv,rfl,hTv,hu2⟩
     obtain⟨ta,tcap,rfl⟩:=hTv.len
     have HTV:=Lib.hid hTv
     have HU2:=Lib.hid hu2
     clear hTv hu2
     go_wp2_with fail
     obtain⟨W4,p,hW4,hpp,hR4,hU4,hX4,hq4,hp4,hord⟩:∃W4 p,W4=(w2.alloc (.cells #[.int .i64 0,.int .i64 0] 36)).alloc (.cells #[.slice ta ts.length tcap,.int .i64 0,.int .i64 0,.int .i64 0] 129)∧p=w2.heap.size+1∧RdAt W4 p ts ⟨0,0,0⟩∧Upto [] w W4∧Cx W4 p ts∧W4.heap[w.heap.size]?=some (.cells #[.slice none 0 0,.int .i64 0,.slice none 0 0,.int .i64 0,.int .i64 0,.int .i64 0,.slice none 0 0] 48 (0,0))∧W4.heap[w.heap.size+1]?=some (.cells #[.int .i64 0,.int .i64 0] 36 (0,0))∧(w.heap.size+1<p):=by
      have ub:=((Upto.refl [] w2).alloc (.cells #[.int .i64 0,.int .i64 0] 36)).alloc (.cells #[.slice ta ts.length tcap,.int .i64 0,.int .i64 0,.int .i64 0] 129)
      have hb2:=HU2.out.at HBP.out (by simp)
      have h2:=kAk hb2
      have h22:=World.block_lt_of_cell? w _ HS.out.c0
      have h23:=HU0.out.size
      refine⟨_,_,rfl,rfl,⟨⟨_,kFz _ _ _,HTV.out.ext ub,?_⟩,HLN.out.1,HFI.out⟩,(HU0.out.trans_ext HU2.out).trans_ext ub,⟨HS.out.upto ((HU0.out.trans_ext HU2.out).trans_ext ub) (by simp),by simp at h22 h23;omega,HLN.out.2⟩,ub.at (HU2.out.at HBQ.out (by simp)) (by simp),ub.at hb2 (by simp),by omega⟩
      intro g o n c e
      rcases HTV.out.at with⟨h0,_⟩ | ⟨g',o',c',e',hat⟩
      ·have:=HLN.out.1;rw [h0] at this;simp at this
      ·rw [e'] at e
       simp at e
       obtain⟨⟨rfl,rfl⟩,-,-⟩:=e
       obtain⟨tt,ht⟩:∃tt,ts[0]?=some tt:=⟨_,List.getElem?_eq_getElem HLN.out.1⟩
       have:=World.block_lt_of_cell? w2 _ (hat _ _ ht).1
       simp at this
       omega
     rw [←hW4,←hpp]
     have HR4:=Lib.hid hR4
     have HU4:=Lib.hid hU4
     have HX4:=Lib.hid hX4
     have HQ4:=Lib.hid hq4
     have HP4:=Lib.hid hp4
     have HO:=Lib.hid hord
     clear hW4 hpp hR4 hU4 hX4 hq4 hp4 hord
     refine (HBY.out W4 p HX4.out HR4.out).mono ?_
     rintro e w5 ⟨vv,rfl,hqn,hR5,hu5,ha5⟩
     obtain⟨g1,g2,g3,oa,na1,na2,na3,sa,ma,qa,la1,la2,la3,rfl⟩:=hqn.seven
     have hua:=(Upto.refl [] w5).alloc (.cells #[.slice g1 g2 g3,.int .i64 oa,.slice na1 na2 na3,.int .i64 sa,.int .i64 ma,.int .i64 qa,.slice la1 la2 la3] 48)
     have HQN:=Lib.hid (hqn.keep (Keep.upto (S:=[]) hua (by simp)))
     have HR5:=Lib.hid (hR5.ext hua)
     have HU5:=Lib.hid (hu5.trans_ext hua)
     have HQ5:=Lib.hid ((hu5.trans_ext hua).at HQ4.out (by have:=HO.out;simp;omega))
     have HP5:=Lib.hid ((hu5.trans_ext hua).at HP4.out (by have:=HO.out;simp;omega))
     have HT5:Hid ((w5.alloc (.cells #[.slice g1 g2 g3,.int .i64 oa,.slice na1 na2 na3,.int .i64 sa,.int .i64 ma,.int .i64 qa,.slice la1 la2 la3] 48)).heap[w5.heap.size]?=some (.cells #[.slice g1 g2 g3,.int .i64 oa,.slice na1 na2 na3,.int .i64 sa,.int .i64 ma,.int .i64 qa,.slice la1 la2 la3] 48 (0,0))):=Lib.hid (kAq _ _)
     have HZ5:=Lib.hid (And.intro (Nat.lt_of_lt_of_le HR4.out.lt hu5.size) (And.intro hu5.size HR4.out.lt))
     have HN:=Lib.hid (kHw _ p ts s' HR5.out)
     clear hqn hR5 hu5 ha5 hua
     go_wp2_with fail
     refine HN.out.mono ?_
     rintro e w6 ⟨rfl,hu6⟩
     rw [HTK.out]
     unfold tkA
     obtain⟨w7,hw7⟩:∃w7,w7=w6:=⟨_,rfl⟩
     rw [←hw7] at hu6 ⊢
     have HR7:Hid (RdAt w7 p ts s1):=Lib.hid (by rw [HSE.out];exact HR5.out.ext hu6)
     have HUX:=Lib.hid (hu6.mono (S':=[p]) (by simp))
     clear hu6 HN hw7
     have HU7:=Lib.hid (HU5.out.trans_same HUX.out)
     have HQ7:=Lib.hid (HUX.out.at HQ5.out (by have:=HO.out;simp;omega))
     have HP7:=Lib.hid (HUX.out.at HP5.out (by have:=HO.out;simp;omega))
     have HT7:=Lib.hid (HUX.out.at HT5.out (by have:=HZ5.out;simp;omega))
     have HQN7:Hid (QnV w7 (New W4) q (.agg #[.slice g1 g2 g3,.int .i64 oa,.slice na1 na2 na3,.int .i64 sa,.int .i64 ma,.int .i64 qa,.slice la1 la2 la3])):=Lib.hid (HQN.out.keep (Keep.upto HUX.out (fun b hb _=>by have:=HZ5.out;unfold New at hb;simp;omega)))
     have HUW:Hid (Upto [] w w7):=Lib.hid (HU4.out.trans HU7.out (fun k hk=>Or.inr (by simp at hk;have:=HO.out;omega)))
     obtain⟨⟨vr,hb7,-,-⟩,-,-⟩:=id HR7.out
     have b2:=kAz hb7 2
     unfold rdC at b2
     simp only [List.getElem?_toArray,List.getElem?_cons_zero,List.getElem?_cons_succ] at b2
     clear hb7
     have ht7:=HT7.out
     obtain⟨t0,t1,t2,t3,t4,t5,t6⟩:=kBw ht7
     obtain⟨u0,u1,u2,u3,u4,u5,u6⟩:=kRk ht7
     obtain⟨vf,a0,a1,a2,a3,a4,a5,eqn,hfv,hnv⟩:=HQN7.out
     simp only [Value.agg.injEq,Array.mk.injEq,List.cons.injEq,and_true] at eqn
     obtain⟨rfl,rfl,rfl,rfl,rfl,rfl,rfl⟩:=eqn
     have HG:=Lib.hid (great_calls q.body _ w7 _ hnv HQS.out)
     clear ht7 hfv hnv
     go_wp2_with fail
     refine HG.out.mono ?_
     clear t0 t1 t2 t3 t4 t5 t6 u0 u1 u2 u3 u4 u5 u6
     rintro e w8 ⟨rfl,hu8⟩
     have hbq:=hu8.at HQ7.out (by simp)
     have hbp:=hu8.at HP7.out (by simp)
     have hbt:=hu8.at HT7.out (by simp)
     obtain⟨t0,t1,t2,t3,t4,t5,t6⟩:=kBw hbt
     obtain⟨u0,u1,u2,u3,u4,u5,u6⟩:=kRk hbt
     have HTN:=Lib.hid (show w5.heap.size≠w.heap.size∧w5.heap.size≠w.heap.size+1 by have:=HZ5.out;have:=HO.out;omega)
     have HF:=Lib.hid (kWk (q:=q) (r:=kGx qp x) (P:=New W4) (li:=0) (ci:=0) (ei:=0) (HUW.out.trans_ext hu8) (Nat.le_refl _) (by omega:w.heap.size≤w.heap.size+1) (by omega) (HQN7.out.keep (Keep.upto (S:=[]) hu8 (by simp))) (fun b hb _=>by have h1:=HZ5.out;have h2:=HO.out;unfold New at hb ⊢;omega) hbq hbp rfl rfl (by rw [HR.out];exact⟨rfl,rfl,rfl,rfl⟩))
     obtain⟨z0,z1,z2,z3,z4,z5,z6⟩:=kBw hbq
     obtain⟨y0,y1,y2,y3,y4,y5,y6⟩:=kRk hbq
     obtain⟨d0,d1⟩:=kKx hbp
     obtain⟨f0,f1⟩:=kRz hbp
     clear hbq hbp hu8
     go_wp2_with fail
     have hb7:=HF.out.2.1
     have hb2:=HF.out.2.2
     have q0:=kAz hb7 0
     have q1:=kAz hb7 1
     have q2:=kAz hb7 2
     have q3:=kAz hb7 3
     have q4:=kAz hb7 4
     have q5:=kAz hb7 5
     have q6:=kAz hb7 6
     have p0:=kAz hb2 0
     have p1:=kAz hb2 1
     simp only [List.getElem?_toArray,List.getElem?_cons_zero,List.getElem?_cons_succ] at q0 q1 q2 q3 q4 q5 q6 p0 p1
     exact bodyPost_ret (v:=.tuple #[.agg #[.slice g1 g2 g3,.int .i64 oa,.slice na1 na2 na3,.int .i64 sa,.int .i64 ma,.int .i64 qa,.slice la1 la2 la3],.agg #[.int .i64 0,.int .i64 0],.int .i64 0]) (by simp [results,Tryz.results56,go_sem,q0,q1,q2,q3,q4,q5,q6,p0,p1]) rfl HF.out.1
    ·have k3:((kIz q.body:Int) != 0)=true:=by rw [bne,show ((kIz q.body:Int)==0)=false by rw [beq_eq_false_iff_ne];omega];rfl
     have HR:Hid (kGx qp x=⟨.zero,0,0,kIz q.body⟩):=Lib.hid (by rw [HS1.out,if_pos h2,if_neg h3])
     clear h2 h3
     go_enter Tryz.func56,Tryz.ntmps56
     go_wp2_with fail
     refine HC.out.mono ?_
     rintro e w2 ⟨tvv,rfl,hTv,hu2⟩
     obtain⟨ta,tcap,rfl⟩:=hTv.len
     have HTV:=Lib.hid hTv
     have HU2:=Lib.hid hu2
     clear hTv hu2
     go_wp2_with fail
     obtain⟨W4,p,hW4,hpp,hR4,hU4,hX4,hq4,hp4,hord⟩:∃W4 p,W4=(w2.alloc (.cells #[.int .i64 0,.int .i64 0] 36)).alloc (.cells #[.slice ta ts.length tcap,.int .i64 0,.int .i64 0,.int .i64 0] 129)∧p=w2.heap.size+1∧RdAt W4 p ts ⟨0,0,0⟩∧Upto [] w W4∧Cx W4 p ts∧W4.heap[w.heap.size]?=some (.cells #[.slice none 0 0,.int .i64 0,.slice none 0 0,.int .i64 0,.int .i64 0,.int .i64 0,.slice none 0 0] 48 (0,0))∧W4.heap[w.heap.size+1]?=some (.cells #[.int .i64 0,.int .i64 0] 36 (0,0))∧(w.heap.size+1<p):=by
      have ub:=((Upto.refl [] w2).alloc (.cells #[.int .i64 0,.int .i64 0] 36)).alloc (.cells #[.slice ta ts.length tcap,.int .i64 0,.int .i64 0,.int .i64 0] 129)
      have hb2:=HU2.out.at HBP.out (by simp)
      have h2:=kAk hb2
      have h22:=World.block_lt_of_cell? w _ HS.out.c0
      have h23:=HU0.out.size
      refine⟨_,_,rfl,rfl,⟨⟨_,kFz _ _ _,HTV.out.ext ub,?_⟩,HLN.out.1,HFI.out⟩,(HU0.out.trans_ext HU2.out).trans_ext ub,⟨HS.out.upto ((HU0.out.trans_ext HU2.out).trans_ext ub) (by simp),by simp at h22 h23;omega,HLN.out.2⟩,ub.at (HU2.out.at HBQ.out (by simp)) (by simp),ub.at hb2 (by simp),by omega⟩
      intro g o n c e
      rcases HTV.out.at with⟨h0,_⟩ | ⟨g',o',c',e',hat⟩
      ·have:=HLN.out.1;rw [h0] at this;simp at this
      ·rw [e'] at e
       simp at e
       obtain⟨⟨rfl,rfl⟩,-,-⟩:=e
       obtain⟨tt,ht⟩:∃tt,ts[0]?=some tt:=⟨_,List.getElem?_eq_getElem HLN.out.1⟩
       have:=World.block_lt_of_cell? w2 _ (hat _ _ ht).1
       simp at this
       omega
     rw [←hW4,←hpp]
     have HR4:=Lib.hid hR4
     have HU4:=Lib.hid hU4
     have HX4:=Lib.hid hX4
     have HQ4:=Lib.hid hq4
     have HP4:=Lib.hid hp4
     have HO:=Lib.hid hord
     clear hW4 hpp hR4 hU4 hX4 hq4 hp4 hord
     refine (HBY.out W4 p HX4.out HR4.out).mono ?_
     rintro e w5 ⟨vv,rfl,hqn,hR5,hu5,ha5⟩
     obtain⟨g1,g2,g3,oa,na1,na2,na3,sa,ma,qa,la1,la2,la3,rfl⟩:=hqn.seven
     have hua:=(Upto.refl [] w5).alloc (.cells #[.slice g1 g2 g3,.int .i64 oa,.slice na1 na2 na3,.int .i64 sa,.int .i64 ma,.int .i64 qa,.slice la1 la2 la3] 48)
     have HQN:=Lib.hid (hqn.keep (Keep.upto (S:=[]) hua (by simp)))
     have HR5:=Lib.hid (hR5.ext hua)
     have HU5:=Lib.hid (hu5.trans_ext hua)
     have HQ5:=Lib.hid ((hu5.trans_ext hua).at HQ4.out (by have:=HO.out;simp;omega))
     have HP5:=Lib.hid ((hu5.trans_ext hua).at HP4.out (by have:=HO.out;simp;omega))
     have HT5:Hid ((w5.alloc (.cells #[.slice g1 g2 g3,.int .i64 oa,.slice na1 na2 na3,.int .i64 sa,.int .i64 ma,.int .i64 qa,.slice la1 la2 la3] 48)).heap[w5.heap.size]?=some (.cells #[.slice g1 g2 g3,.int .i64 oa,.slice na1 na2 na3,.int .i64 sa,.int .i64 ma,.int .i64 qa,.slice la1 la2 la3] 48 (0,0))):=Lib.hid (kAq _ _)
     have HZ5:=Lib.hid (And.intro (Nat.lt_of_lt_of_le HR4.out.lt hu5.size) (And.intro hu5.size HR4.out.lt))
     have HN:=Lib.hid (kHw _ p ts s' HR5.out)
     clear hqn hR5 hu5 ha5 hua
     go_wp2_with fail
     refine HN.out.mono ?_
     rintro e w6 ⟨rfl,hu6⟩
     rw [HTK.out]
     unfold tkA
     obtain⟨w7,hw7⟩:∃w7,w7=w6:=⟨_,rfl⟩
     rw [←hw7] at hu6 ⊢
     have HR7:Hid (RdAt w7 p ts s1):=Lib.hid (by rw [HSE.out];exact HR5.out.ext hu6)
     have HUX:=Lib.hid (hu6.mono (S':=[p]) (by simp))
     clear hu6 HN hw7
     have HU7:=Lib.hid (HU5.out.trans_same HUX.out)
     have HQ7:=Lib.hid (HUX.out.at HQ5.out (by have:=HO.out;simp;omega))
     have HP7:=Lib.hid (HUX.out.at HP5.out (by have:=HO.out;simp;omega))
     have HT7:=Lib.hid (HUX.out.at HT5.out (by have:=HZ5.out;simp;omega))
     have HQN7:Hid (QnV w7 (New W4) q (.agg #[.slice g1 g2 g3,.int .i64 oa,.slice na1 na2 na3,.int .i64 sa,.int .i64 ma,.int .i64 qa,.slice la1 la2 la3])):=Lib.hid (HQN.out.keep (Keep.upto HUX.out (fun b hb _=>by have:=HZ5.out;unfold New at hb;simp;omega)))
     have HUW:Hid (Upto [] w w7):=Lib.hid (HU4.out.trans HU7.out (fun k hk=>Or.inr (by simp at hk;have:=HO.out;omega)))
     obtain⟨⟨vr,hb7,-,-⟩,-,-⟩:=id HR7.out
     have b2:=kAz hb7 2
     unfold rdC at b2
     simp only [List.getElem?_toArray,List.getElem?_cons_zero,List.getElem?_cons_succ] at b2
     clear hb7
     have ht7:=HT7.out
     obtain⟨t0,t1,t2,t3,t4,t5,t6⟩:=kBw ht7
     obtain⟨u0,u1,u2,u3,u4,u5,u6⟩:=kRk ht7
     obtain⟨vf,a0,a1,a2,a3,a4,a5,eqn,hfv,hnv⟩:=HQN7.out
     simp only [Value.agg.injEq,Array.mk.injEq,List.cons.injEq,and_true] at eqn
     obtain⟨rfl,rfl,rfl,rfl,rfl,rfl,rfl⟩:=eqn
     have HG:=Lib.hid (great_calls q.body _ w7 _ hnv HQS.out)
     clear ht7 hfv hnv
     go_wp2_with fail
     refine HG.out.mono ?_
     clear t0 t1 t2 t3 t4 t5 t6 u0 u1 u2 u3 u4 u5 u6
     rintro e w8 ⟨rfl,hu8⟩
     have hbq:=hu8.at HQ7.out (by simp)
     have hbp:=hu8.at HP7.out (by simp)
     have HF:=Lib.hid (kWk (q:=.zero) (r:=kGx qp x) (P:=fun _=>False) (li:=0) (ci:=0) (ei:=kIz q.body) (HUW.out.trans_ext hu8) (Nat.le_refl _) (by omega:w.heap.size≤w.heap.size+1) (by omega) (QnV.zero _ _) (fun b hb=>hb.elim) hbq hbp rfl rfl (by rw [HR.out];exact⟨rfl,rfl,rfl,rfl⟩))
     obtain⟨z0,z1,z2,z3,z4,z5,z6⟩:=kBw hbq
     obtain⟨y0,y1,y2,y3,y4,y5,y6⟩:=kRk hbq
     obtain⟨d0,d1⟩:=kKx hbp
     obtain⟨f0,f1⟩:=kRz hbp
     clear hbq hbp hu8
     go_wp2_with fail
     have hb7:=HF.out.2.1
     have hb2:=HF.out.2.2
     have q0:=kAz hb7 0
     have q1:=kAz hb7 1
     have q2:=kAz hb7 2
     have q3:=kAz hb7 3
     have q4:=kAz hb7 4
     have q5:=kAz hb7 5
     have q6:=kAz hb7 6
     have p0:=kAz hb2 0
     have p1:=kAz hb2 1
     simp only [List.getElem?_toArray,List.getElem?_cons_zero,List.getElem?_cons_succ] at q0 q1 q2 q3 q4 q5 q6 p0 p1
     exact bodyPost_ret (v:=.tuple #[.agg #[.slice none 0 0,.int .i64 0,.slice none 0 0,.int .i64 0,.int .i64 0,.int .i64 0,.slice none 0 0],.agg #[.int .i64 0,.int .i64 0],.int .i64 (kIz q.body)]) (by simp [results,Tryz.results56,go_sem,q0,q1,q2,q3,q4,q5,q6,p0,p1]) rfl HF.out.1
   ·have k2:((s1.er:Int) != 0)=true:=by rw [bne,show ((s1.er:Int)==0)=false by rw [beq_eq_false_iff_ne];omega];rfl
    have HR:Hid (kGx qp x=⟨.zero,tl,tc,s1.er⟩):=Lib.hid (by rw [HS1.out,if_neg h2])
    clear h2
    go_enter Tryz.func56,Tryz.ntmps56
    go_wp2_with fail
    refine HC.out.mono ?_
    rintro e w2 ⟨tvv,rfl,hTv,hu2⟩
    obtain⟨ta,tcap,rfl⟩:=hTv.len
    have HTV:=Lib.hid hTv
    have HU2:=Lib.hid hu2
    clear hTv hu2
    go_wp2_with fail
    obtain⟨W4,p,hW4,hpp,hR4,hU4,hX4,hq4,hp4,hord⟩:∃W4 p,W4=(w2.alloc (.cells #[.int .i64 0,.int .i64 0] 36)).alloc (.cells #[.slice ta ts.length tcap,.int .i64 0,.int .i64 0,.int .i64 0] 129)∧p=w2.heap.size+1∧RdAt W4 p ts ⟨0,0,0⟩∧Upto [] w W4∧Cx W4 p ts∧W4.heap[w.heap.size]?=some (.cells #[.slice none 0 0,.int .i64 0,.slice none 0 0,.int .i64 0,.int .i64 0,.int .i64 0,.slice none 0 0] 48 (0,0))∧W4.heap[w.heap.size+1]?=some (.cells #[.int .i64 0,.int .i64 0] 36 (0,0))∧(w.heap.size+1<p):=by
     have ub:=((Upto.refl [] w2).alloc (.cells #[.int .i64 0,.int .i64 0] 36)).alloc (.cells #[.slice ta ts.length tcap,.int .i64 0,.int .i64 0,.int .i64 0] 129)
     have hb2:=HU2.out.at HBP.out (by simp)
     have h2:=kAk hb2
     have h22:=World.block_lt_of_cell? w _ HS.out.c0
     have h23:=HU0.out.size
     refine⟨_,_,rfl,rfl,⟨⟨_,kFz _ _ _,HTV.out.ext ub,?_⟩,HLN.out.1,HFI.out⟩,(HU0.out.trans_ext HU2.out).trans_ext ub,⟨HS.out.upto ((HU0.out.trans_ext HU2.out).trans_ext ub) (by simp),by simp at h22 h23;omega,HLN.out.2⟩,ub.at (HU2.out.at HBQ.out (by simp)) (by simp),ub.at hb2 (by simp),by omega⟩
     intro g o n c e
     rcases HTV.out.at with⟨h0,_⟩ | ⟨g',o',c',e',hat⟩
     ·have:=HLN.out.1;rw [h0] at this;simp at this
     ·rw [e'] at e
      simp at e
      obtain⟨⟨rfl,rfl⟩,-,-⟩:=e
      obtain⟨tt,ht⟩:∃tt,ts[0]?=some tt:=⟨_,List.getElem?_eq_getElem HLN.out.1⟩
      have:=World.block_lt_of_cell? w2 _ (hat _ _ ht).1
      simp at this
      omega
    rw [←hW4,←hpp]
    have HR4:=Lib.hid hR4
    have HU4:=Lib.hid hU4
    have HX4:=Lib.hid hX4
    have HQ4:=Lib.hid hq4
    have HP4:=Lib.hid hp4
    have HO:=Lib.hid hord
    clear hW4 hpp hR4 hU4 hX4 hq4 hp4 hord
    refine (HBY.out W4 p HX4.out HR4.out).mono ?_
    rintro e w5 ⟨vv,rfl,hqn,hR5,hu5,ha5⟩
    obtain⟨g1,g2,g3,oa,na1,na2,na3,sa,ma,qa,la1,la2,la3,rfl⟩:=hqn.seven
    have hua:=(Upto.refl [] w5).alloc (.cells #[.slice g1 g2 g3,.int .i64 oa,.slice na1 na2 na3,.int .i64 sa,.int .i64 ma,.int .i64 qa,.slice la1 la2 la3] 48)
    have HQN:=Lib.hid (hqn.keep (Keep.upto (S:=[]) hua (by simp)))
    have HR5:=Lib.hid (hR5.ext hua)
    have HU5:=Lib.hid (hu5.trans_ext hua)
    have HQ5:=Lib.hid ((hu5.trans_ext hua).at HQ4.out (by have:=HO.out;simp;omega))
    have HP5:=Lib.hid ((hu5.trans_ext hua).at HP4.out (by have:=HO.out;simp;omega))
    have HT5:Hid ((w5.alloc (.cells #[.slice g1 g2 g3,.int .i64 oa,.slice na1 na2 na3,.int .i64 sa,.int .i64 ma,.int .i64 qa,.slice la1 la2 la3] 48)).heap[w5.heap.size]?=some (.cells #[.slice g1 g2 g3,.int .i64 oa,.slice na1 na2 na3,.int .i64 sa,.int .i64 ma,.int .i64 qa,.slice la1 la2 la3] 48 (0,0))):=Lib.hid (kAq _ _)
    have HZ5:=Lib.hid (And.intro (Nat.lt_of_lt_of_le HR4.out.lt hu5.size) (And.intro hu5.size HR4.out.lt))
    have HN:=Lib.hid (kHw _ p ts s' HR5.out)
    clear hqn hR5 hu5 ha5 hua
    go_wp2_with fail
    refine HN.out.mono ?_
    rintro e w6 ⟨rfl,hu6⟩
    rw [HTK.out]
    unfold tkA
    obtain⟨w7,hw7⟩:∃w7,w7=w6:=⟨_,rfl⟩
    rw [←hw7] at hu6 ⊢
    have HR7:Hid (RdAt w7 p ts s1):=Lib.hid (by rw [HSE.out];exact HR5.out.ext hu6)
    have HUX:=Lib.hid (hu6.mono (S':=[p]) (by simp))
    clear hu6 HN hw7
    have HU7:=Lib.hid (HU5.out.trans_same HUX.out)
    have HQ7:=Lib.hid (HUX.out.at HQ5.out (by have:=HO.out;simp;omega))
    have HP7:=Lib.hid (HUX.out.at HP5.out (by have:=HO.out;simp;omega))
    have HT7:=Lib.hid (HUX.out.at HT5.out (by have:=HZ5.out;simp;omega))
    have HQN7:Hid (QnV w7 (New W4) q (.agg #[.slice g1 g2 g3,.int .i64 oa,.slice na1 na2 na3,.int .i64 sa,.int .i64 ma,.int .i64 qa,.slice la1 la2 la3])):=Lib.hid (HQN.out.keep (Keep.upto HUX.out (fun b hb _=>by have:=HZ5.out;unfold New at hb;simp;omega)))
    have HUW:Hid (Upto [] w w7):=Lib.hid (HU4.out.trans HU7.out (fun k hk=>Or.inr (by simp at hk;have:=HO.out;omega)))
    obtain⟨⟨vr,hb7,-,-⟩,-,-⟩:=id HR7.out
    have b2:=kAz hb7 2
    unfold rdC at b2
    simp only [List.getElem?_toArray,List.getElem?_cons_zero,List.getElem?_cons_succ] at b2
    have HB7:=Lib.hid hb7
    have b3:=kAz (((Upto.refl [] w7).drew).at hb7 (by simp)) 2
    unfold rdC at b3
    simp only [List.getElem?_toArray,List.getElem?_cons_zero,List.getElem?_cons_succ] at b3
    have HN7:=Lib.hid (kHw w7.drew p ts s1 (HR7.out.ext ((Upto.refl [] w7).drew)))
    clear hb7
    go_wp2_with fail
    go_region_with (
     refine HN7.out.mono ?_
     rintro e w8 ⟨rfl,hu8⟩
     rw [HT1.out]
     unfold tkA
     have hu8b:=((Upto.refl [] w7).drew).trans_ext hu8
     have hbq:=hu8b.at HQ7.out (by simp)
     have hbp:=hu8b.at HP7.out (by simp)
     have b4:=kAz (hu8b.at HB7.out (by simp)) 2
     unfold rdC at b4
     simp only [List.getElem?_toArray,List.getElem?_cons_zero,List.getElem?_cons_succ] at b4
     obtain⟨z0,z1,z2,z3,z4,z5,z6⟩:=kBw hbq
     obtain⟨y0,y1,y2,y3,y4,y5,y6⟩:=kRk hbq
     obtain⟨d0,d1⟩:=kKx hbp
     obtain⟨f0,f1⟩:=kRz hbp
     have n1:w.heap.size≠p:=by have:=HO.out;omega
     have n2:w.heap.size+1≠p:=by have:=HO.out;omega
     have n3:p≠w.heap.size:=n1.symm
     have n4:p≠w.heap.size+1:=n2.symm
     have HF:=Lib.hid (kWk (q:=.zero) (r:=kGx qp x) (P:=fun _=>False) (li:=tl) (ci:=tc) (ei:=s1.er) (HUW.out.trans_ext hu8b) (Nat.le_refl _) (by omega:w.heap.size≤w.heap.size+1) (by omega) (QnV.zero _ _) (fun b hb=>hb.elim) hbq hbp rfl rfl (by rw [HR.out];exact⟨rfl,rfl,rfl,rfl⟩))
     clear hbq hbp hu8 hu8b)
    all_goals (
     go_wp2_with fail
     have hb7:=HF.out.2.1
     have hb2:=HF.out.2.2
     have q0:=kAz hb7 0
     have q1:=kAz hb7 1
     have q2:=kAz hb7 2
     have q3:=kAz hb7 3
     have q4:=kAz hb7 4
     have q5:=kAz hb7 5
     have q6:=kAz hb7 6
     have p0:=kAz hb2 0
     have p1:=kAz hb2 1
     simp only [List.getElem?_toArray,List.getElem?_cons_zero,List.getElem?_cons_succ] at q0 q1 q2 q3 q4 q5 q6 p0 p1
     exact bodyPost_ret (v:=.tuple #[.agg #[.slice none 0 0,.int .i64 0,.slice none 0 0,.int .i64 0,.int .i64 0,.int .i64 0,.slice none 0 0],.agg #[.int .i64 tl,.int .i64 tc],.int .i64 s1.er]) (by simp [results,Tryz.results56,go_sem,q0,q1,q2,q3,q4,q5,q6,p0,p1]) rfl HF.out.1)
  ·have k1:((tk:Int) != 0)=true:=by rw [bne,show ((tk:Int)==0)=false by rw [beq_eq_false_iff_ne];omega];rfl
   have HS1:Hid (kGx qp x=if (kCk 3 s').er=0 then (if kIz q.body=0 then ⟨q,0,0,0⟩ else ⟨.zero,0,0,kIz q.body⟩) else ⟨.zero,tl,tc,(kCk 3 s').er⟩):=Lib.hid (by
    have:tkAt ts (kCk 3 s')=⟨tk,tx,tv,tl,tc⟩:=by unfold tkAt;rw [kPw];exact HTK.out
    rw [HRF.out]
    unfold endF
    simp only [HTK.out,if_neg h1,this])
   obtain⟨s1,hs1,hnx1⟩:∃s1,s1=kCk 3 s'∧s1.nx=s'.nx:=⟨_,rfl,kPw 3 s'⟩
   clear h1
   rw [←hs1] at HS1
   have HT1:Hid (tkAt ts s1=⟨tk,tx,tv,tl,tc⟩):=Lib.hid (by have h:=HTK.out;unfold tkAt at h ⊢;rw [hnx1];exact h)
   have HSE:=Lib.hid hs1
   clear hs1 hnx1
   by_cases h2:s1.er=0
   ·have k2:((s1.er:Int) != 0)=false:=by rw [bne,show ((s1.er:Int)==0)=true by simp [h2]];rfl
    by_cases h3:kIz q.body=0
    ·have k3:((kIz q.body:Int) != 0)=false:=by rw [bne,show ((kIz q.body:Int)==0)=true by simp [h3]];rfl
     have HR:Hid (kGx qp x=⟨q,0,0,0⟩):=Lib.hid (by rw [HS1.out,if_pos h2,if_pos h3])
     clear h2 h3
     go_enter Tryz.func56,Tryz.ntmps56
     go_wp2_with fail
     refine HC.out.mono ?_
     rintro e w2 ⟨tvv,rfl,hTv,hu2⟩
     obtain⟨ta,tcap,rfl⟩:=hTv.len
     have HTV:=Lib.hid hTv
     have HU2:=Lib.hid hu2
     clear hTv hu2
     go_wp2_with fail
     obtain⟨W4,p,hW4,hpp,hR4,hU4,hX4,hq4,hp4,hord⟩:∃W4 p,W4=(w2.alloc (.cells #[.int .i64 0,.int .i64 0] 36)).alloc (.cells #[.slice ta ts.length tcap,.int .i64 0,.int .i64 0,.int .i64 0] 129)∧p=w2.heap.size+1∧RdAt W4 p ts ⟨0,0,0⟩∧Upto [] w W4∧Cx W4 p ts∧W4.heap[w.heap.size]?=some (.cells #[.slice none 0 0,.int .i64 0,.slice none 0 0,.int .i64 0,.int .i64 0,.int .i64 0,.slice none 0 0] 48 (0,0))∧W4.heap[w.heap.size+1]?=some (.cells #[.int .i64 0,.int .i64 0] 36 (0,0))∧(w.heap.size+1<p):=by
      have ub:=((Upto.refl [] w2).alloc (.cells #[.int .i64 0,.int .i64 0] 36)).alloc (.cells #[.slice ta ts.length tcap,.int .i64 0,.int .i64 0,.int .i64 0] 129)
      have hb2:=HU2.out.at HBP.out (by simp)
      have h2:=kAk hb2
      have h22:=World.block_lt_of_cell? w _ HS.out.c0
      have h23:=HU0.out.size
      refine⟨_,_,rfl,rfl,⟨⟨_,kFz _ _ _,HTV.out.ext ub,?_⟩,HLN.out.1,HFI.out⟩,(HU0.out.trans_ext HU2.out).trans_ext ub,⟨HS.out.upto ((HU0.out.trans_ext HU2.out).trans_ext ub) (by simp),by simp at h22 h23;omega,HLN.out.2⟩,ub.at (HU2.out.at HBQ.out (by simp)) (by simp),ub.at hb2 (by simp),by omega⟩
      intro g o n c e
      rcases HTV.out.at with⟨h0,_⟩ | ⟨g',o',c',e',hat⟩
      ·have:=HLN.out.1;rw [h0] at this;simp at this
      ·rw [e'] at e
       simp at e
       obtain⟨⟨rfl,rfl⟩,-,-⟩:=e
       obtain⟨tt,ht⟩:∃tt,ts[0]?=some tt:=⟨_,List.getElem?_eq_getElem HLN.out.1⟩
       have:=World.block_lt_of_cell? w2 _ (hat _ _ ht).1
       simp at this
       omega
     rw [←hW4,←hpp]
     have HR4:=Lib.hid hR4
     have HU4:=Lib.hid hU4
     have HX4:=Lib.hid hX4
     have HQ4:=Lib.hid hq4
     have HP4:=Lib.hid hp4
     have HO:=Lib.hid hord
     clear hW4 hpp hR4 hU4 hX4 hq4 hp4 hord
     refine (HBY.out W4 p HX4.out HR4.out).mono ?_
     rintro e w5 ⟨vv,rfl,hqn,hR5,hu5,ha5⟩
     obtain⟨g1,g2,g3,oa,na1,na2,na3,sa,ma,qa,la1,la2,la3,rfl⟩:=hqn.seven
     have hua:=(Upto.refl [] w5).alloc (.cells #[.slice g1 g2 g3,.int .i64 oa,.slice na1 na2 na3,.int .i64 sa,.int .i64 ma,.int .i64 qa,.slice la1 la2 la3] 48)
     have HQN:=Lib.hid (hqn.keep (Keep.upto (S:=[]) hua (by simp)))
     have HR5:=Lib.hid (hR5.ext hua)
     have HU5:=Lib.hid (hu5.trans_ext hua)
     have HQ5:=Lib.hid ((hu5.trans_ext hua).at HQ4.out (by have:=HO.out;simp;omega))
     have HP5:=Lib.hid ((hu5.trans_ext hua).at HP4.out (by have:=HO.out;simp;omega))
     have HT5:Hid ((w5.alloc (.cells #[.slice g1 g2 g3,.int .i64 oa,.slice na1 na2 na3,.int .i64 sa,.int .i64 ma,.int .i64 qa,.slice la1 la2 la3] 48)).heap[w5.heap.size]?=some (.cells #[.slice g1 g2 g3,.int .i64 oa,.slice na1 na2 na3,.int .i64 sa,.int .i64 ma,.int .i64 qa,.slice la1 la2 la3] 48 (0,0))):=Lib.hid (kAq _ _)
     have HZ5:=Lib.hid (And.intro (Nat.lt_of_lt_of_le HR4.out.lt hu5.size) (And.intro hu5.size HR4.out.lt))
     have HN:=Lib.hid (kHw _ p ts s' HR5.out)
     clear hqn hR5 hu5 ha5 hua
     go_wp2_with fail
     refine HN.out.mono ?_
     rintro e w6 ⟨rfl,hu6⟩
     rw [HTK.out]
     unfold tkA
     have HR6:=Lib.hid (HR5.out.ext hu6)
     have HUA6:=Lib.hid hu6
     clear hu6 HN
     go_wp2_with fail
     refine (kLj w6 p 3 ts s' HR6.out).mono ?_
     rintro e w7 ⟨rfl,hR7,hu7⟩
     rw [←HSE.out] at hR7
     have HR7:=Lib.hid hR7
     have HUX:=Lib.hid ((HUA6.out.mono (S':=[p]) (by simp)).trans_same hu7)
     clear hR7 hu7
     have HU7:=Lib.hid (HU5.out.trans_same HUX.out)
     have HQ7:=Lib.hid (HUX.out.at HQ5.out (by have:=HO.out;simp;omega))
     have HP7:=Lib.hid (HUX.out.at HP5.out (by have:=HO.out;simp;omega))
     have HT7:=Lib.hid (HUX.out.at HT5.out (by have:=HZ5.out;simp;omega))
     have HQN7:Hid (QnV w7 (New W4) q (.agg #[.slice g1 g2 g3,.int .i64 oa,.slice na1 na2 na3,.int .i64 sa,.int .i64 ma,.int .i64 qa,.slice la1 la2 la3])):=Lib.hid (HQN.out.keep (Keep.upto HUX.out (fun b hb _=>by have:=HZ5.out;unfold New at hb;simp;omega)))
     have HUW:Hid (Upto [] w w7):=Lib.hid (HU4.out.trans HU7.out (fun k hk=>Or.inr (by simp at hk;have:=HO.out;omega)))
     obtain⟨⟨vr,hb7,-,-⟩,-,-⟩:=id HR7.out
     have b2:=kAz hb7 2
     unfold rdC at b2
     simp only [List.getElem?_toArray,List.getElem?_cons_zero,List.getElem?_cons_succ] at b2
     clear hb7
     have ht7:=HT7.out
     obtain⟨t0,t1,t2,t3,t4,t5,t6⟩:=kBw ht7
     obtain⟨u0,u1,u2,u3,u4,u5,u6⟩:=kRk ht7
     obtain⟨vf,a0,a1,a2,a3,a4,a5,eqn,hfv,hnv⟩:=HQN7.out
     simp only [Value.agg.injEq,Array.mk.injEq,List.cons.injEq,and_true] at eqn
     obtain⟨rfl,rfl,rfl,rfl,rfl,rfl,rfl⟩:=eqn
     have HG:=Lib.hid (great_calls q.body _ w7 _ hnv HQS.out)
     clear ht7 hfv hnv
     go_wp2_with fail
     refine HG.out.mono ?_
     clear t0 t1 t2 t3 t4 t5 t6 u0 u1 u2 u3 u4 u5 u6
     rintro e w8 ⟨rfl,hu8⟩
     have hbq:=hu8.at HQ7.out (by simp)
     have hbp:=hu8.at HP7.out (by simp)
     have hbt:=hu8.at HT7.out (by simp)
     obtain⟨t0,t1,t2,t3,t4,t5,t6⟩:=kBw hbt
     obtain⟨u0,u1,u2,u3,u4,u5,u6⟩:=kRk hbt
     have HTN:=Lib.hid (show w5.heap.size≠w.heap.size∧w5.heap.size≠w.heap.size+1 by have:=HZ5.out;have:=HO.out;omega)
     have HF:=Lib.hid (kWk (q:=q) (r:=kGx qp x) (P:=New W4) (li:=0) (ci:=0) (ei:=0) (HUW.out.trans_ext hu8) (Nat.le_refl _) (by omega:w.heap.size≤w.heap.size+1) (by omega) (HQN7.out.keep (Keep.upto (S:=[]) hu8 (by simp))) (fun b hb _=>by have h1:=HZ5.out;have h2:=HO.out;unfold New at hb ⊢;omega) hbq hbp rfl rfl (by rw [HR.out];exact⟨rfl,rfl,rfl,rfl⟩))
     obtain⟨z0,z1,z2,z3,z4,z5,z6⟩:=kBw hbq
     obtain⟨y0,y1,y2,y3,y4,y5,y6⟩:=kRk hbq
     obtain⟨d0,d1⟩:=kKx hbp
     obtain⟨f0,f1⟩:=kRz hbp
     clear hbq hbp hu8
     go_wp2_with fail
     have hb7:=HF.out.2.1
     have hb2:=HF.out.2.2
     have q0:=kAz hb7 0
     have q1:=kAz hb7 1
     have q2:=kAz hb7 2
     have q3:=kAz hb7 3
     have q4:=kAz hb7 4
     have q5:=kAz hb7 5
     have q6:=kAz hb7 6
     have p0:=kAz hb2 0
     have p1:=kAz hb2 1
     simp only [List.getElem?_toArray,List.getElem?_cons_zero,List.getElem?_cons_succ] at q0 q1 q2 q3 q4 q5 q6 p0 p1
     exact bodyPost_ret (v:=.tuple #[.agg #[.slice g1 g2 g3,.int .i64 oa,.slice na1 na2 na3,.int .i64 sa,.int .i64 ma,.int .i64 qa,.slice la1 la2 la3],.agg #[.int .i64 0,.int .i64 0],.int .i64 0]) (by simp [results,Tryz.results56,go_sem,q0,q1,q2,q3,q4,q5,q6,p0,p1]) rfl HF.out.1
    ·have k3:((kIz q.body:Int) != 0)=true:=by rw [bne,show ((kIz q.body:Int)==0)=false by rw [beq_eq_false_iff_ne];omega];rfl
     have HR:Hid (kGx qp x=⟨.zero,0,0,kIz q.body⟩):=Lib.hid (by rw [HS1.out,if_pos h2,if_neg h3])
     clear h2 h3
     go_enter Tryz.func56,Tryz.ntmps56
     go_wp2_with fail
     refine HC.out.mono ?_
     rintro e w2 ⟨tvv,rfl,hTv,hu2⟩
     obtain⟨ta,tcap,rfl⟩:=hTv.len
     have HTV:=Lib.hid hTv
     have HU2:=Lib.hid hu2
     clear hTv hu2
     go_wp2_with fail
     obtain⟨W4,p,hW4,hpp,hR4,hU4,hX4,hq4,hp4,hord⟩:∃W4 p,W4=(w2.alloc (.cells #[.int .i64 0,.int .i64 0] 36)).alloc (.cells #[.slice ta ts.length tcap,.int .i64 0,.int .i64 0,.int .i64 0] 129)∧p=w2.heap.size+1∧RdAt W4 p ts ⟨0,0,0⟩∧Upto [] w W4∧Cx W4 p ts∧W4.heap[w.heap.size]?=some (.cells #[.slice none 0 0,.int .i64 0,.slice none 0 0,.int .i64 0,.int .i64 0,.int .i64 0,.slice none 0 0] 48 (0,0))∧W4.heap[w.heap.size+1]?=some (.cells #[.int .i64 0,.int .i64 0] 36 (0,0))∧(w.heap.size+1<p):=by
      have ub:=((Upto.refl [] w2).alloc (.cells #[.int .i64 0,.int .i64 0] 36)).alloc (.cells #[.slice ta ts.length tcap,.int .i64 0,.int .i64 0,.int .i64 0] 129)
      have hb2:=HU2.out.at HBP.out (by simp)
      have h2:=kAk hb2
      have h22:=World.block_lt_of_cell? w _ HS.out.c0
      have h23:=HU0.out.size
      refine⟨_,_,rfl,rfl,⟨⟨_,kFz _ _ _,HTV.out.ext ub,?_⟩,HLN.out.1,HFI.out⟩,(HU0.out.trans_ext HU2.out).trans_ext ub,⟨HS.out.upto ((HU0.out.trans_ext HU2.out).trans_ext ub) (by simp),by simp at h22 h23;omega,HLN.out.2⟩,ub.at (HU2.out.at HBQ.out (by simp)) (by simp),ub.at hb2 (by simp),by omega⟩
      intro g o n c e
      rcases HTV.out.at with⟨h0,_⟩ | ⟨g',o',c',e',hat⟩
      ·have:=HLN.out.1;rw [h0] at this;simp at this
      ·rw [e'] at e
       simp at e
       obtain⟨⟨rfl,rfl⟩,-,-⟩:=e
       obtain⟨tt,ht⟩:∃tt,ts[0]?=some tt:=⟨_,List.getElem?_eq_getElem HLN.out.1⟩
       have:=World.block_lt_of_cell? w2 _ (hat _ _ ht).1
       simp at this
       omega
     rw [←hW4,←hpp]
     have HR4:=Lib.hid hR4
     have HU4:=Lib.hid hU4
     have HX4:=Lib.hid hX4
     have HQ4:=Lib.hid hq4
     have HP4:=Lib.hid hp4
     have HO:=Lib.hid hord
     clear hW4 hpp hR4 hU4 hX4 hq4 hp4 hord
     refine (HBY.out W4 p HX4.out HR4.out).mono ?_
     rintro e w5 ⟨vv,rfl,hqn,hR5,hu5,ha5⟩
     obtain⟨g1,g2,g3,oa,na1,na2,na3,sa,ma,qa,la1,la2,la3,rfl⟩:=hqn.seven
     have hua:=(Upto.refl [] w5).alloc (.cells #[.slice g1 g2 g3,.int .i64 oa,.slice na1 na2 na3,.int .i64 sa,.int .i64 ma,.int .i64 qa,.slice la1 la2 la3] 48)
     have HQN:=Lib.hid (hqn.keep (Keep.upto (S:=[]) hua (by simp)))
     have HR5:=Lib.hid (hR5.ext hua)
     have HU5:=Lib.hid (hu5.trans_ext hua)
     have HQ5:=Lib.hid ((hu5.trans_ext hua).at HQ4.out (by have:=HO.out;simp;omega))
     have HP5:=Lib.hid ((hu5.trans_ext hua).at HP4.out (by have:=HO.out;simp;omega))
     have HT5:Hid ((w5.alloc (.cells #[.slice g1 g2 g3,.int .i64 oa,.slice na1 na2 na3,.int .i64 sa,.int .i64 ma,.int .i64 qa,.slice la1 la2 la3] 48)).heap[w5.heap.size]?=some (.cells #[.slice g1 g2 g3,.int .i64 oa,.slice na1 na2 na3,.int .i64 sa,.int .i64 ma,.int .i64 qa,.slice la1 la2 la3] 48 (0,0))):=Lib.hid (kAq _ _)
     have HZ5:=Lib.hid (And.intro (Nat.lt_of_lt_of_le HR4.out.lt hu5.size) (And.intro hu5.size HR4.out.lt))
     have HN:=Lib.hid (kHw _ p ts s' HR5.out)
     clear hqn hR5 hu5 ha5 hua
     go_wp2_with fail
     refine HN.out.mono ?_
     rintro e w6 ⟨rfl,hu6⟩
     rw [HTK.out]
     unfold tkA
     have HR6:=Lib.hid (HR5.out.ext hu6)
     have HUA6:=Lib.hid hu6
     clear hu6 HN
     go_wp2_with fail
     refine (kLj w6 p 3 ts s' HR6.out).mono ?_
     rintro e w7 ⟨rfl,hR7,hu7⟩
     rw [←HSE.out] at hR7
     have HR7:=Lib.hid hR7
     have HUX:=Lib.hid ((HUA6.out.mono (S':=[p]) (by simp)).trans_same hu7)
     clear hR7 hu7
     have HU7:=Lib.hid (HU5.out.trans_same HUX.out)
     have HQ7:=Lib.hid (HUX.out.at HQ5.out (by have:=HO.out;simp;omega))
     have HP7:=Lib.hid (HUX.out.at HP5.out (by have:=HO.out;simp;omega))
     have HT7:=Lib.hid (HUX.out.at HT5.out (by have:=HZ5.out;simp;omega))
     have HQN7:Hid (QnV w7 (New W4) q (.agg #[.slice g1 g2 g3,.int .i64 oa,.slice na1 na2 na3,.int .i64 sa,.int .i64 ma,.int .i64 qa,.slice la1 la2 la3])):=Lib.hid (HQN.out.keep (Keep.upto HUX.out (fun b hb _=>by have:=HZ5.out;unfold New at hb;simp;omega)))
     have HUW:Hid (Upto [] w w7):=Lib.hid (HU4.out.trans HU7.out (fun k hk=>Or.inr (by simp at hk;have:=HO.out;omega)))
     obtain⟨⟨vr,hb7,-,-⟩,-,-⟩:=id HR7.out
     have b2:=kAz hb7 2
     unfold rdC at b2
     simp only [List.getElem?_toArray,List.getElem?_cons_zero,List.getElem?_cons_succ] at b2
     clear hb7
     have ht7:=HT7.out
     obtain⟨t0,t1,t2,t3,t4,t5,t6⟩:=kBw ht7
     obtain⟨u0,u1,u2,u3,u4,u5,u6⟩:=kRk ht7
     obtain⟨vf,a0,a1,a2,a3,a4,a5,eqn,hfv,hnv⟩:=HQN7.out
     simp only [Value.agg.injEq,Array.mk.injEq,List.cons.injEq,and_true] at eqn
     obtain⟨rfl,rfl,rfl,rfl,rfl,rfl,rfl⟩:=eqn
     have HG:=Lib.hid (great_calls q.body _ w7 _ hnv HQS.out)
     clear ht7 hfv hnv
     go_wp2_with fail
     refine HG.out.mono ?_
     clear t0 t1 t2 t3 t4 t5 t6 u0 u1 u2 u3 u4 u5 u6
     rintro e w8 ⟨rfl,hu8⟩
     have hbq:=hu8.at HQ7.out (by simp)
     have hbp:=hu8.at HP7.out (by simp)
     have HF:=Lib.hid (kWk (q:=.zero) (r:=kGx qp x) (P:=fun _=>False) (li:=0) (ci:=0) (ei:=kIz q.body) (HUW.out.trans_ext hu8) (Nat.le_refl _) (by omega:w.heap.size≤w.heap.size+1) (by omega) (QnV.zero _ _) (fun b hb=>hb.elim) hbq hbp rfl rfl (by rw [HR.out];exact⟨rfl,rfl,rfl,rfl⟩))
     obtain⟨z0,z1,z2,z3,z4,z5,z6⟩:=kBw hbq
     obtain⟨y0,y1,y2,y3,y4,y5,y6⟩:=kRk hbq
     obtain⟨d0,d1⟩:=kKx hbp
     obtain⟨f0,f1⟩:=kRz hbp
     clear hbq hbp hu8
     go_wp2_with fail
     have hb7:=HF.out.2.1
     have hb2:=HF.out.2.2
     have q0:=kAz hb7 0
     have q1:=kAz hb7 1
     have q2:=kAz hb7 2
     have q3:=kAz hb7 3
     have q4:=kAz hb7 4
     have q5:=kAz hb7 5
     have q6:=kAz hb7 6
     have p0:=kAz hb2 0
     have p1:=kAz hb2 1
     simp only [List.getElem?_toArray,List.getElem?_cons_zero,List.getElem?_cons_succ] at q0 q1 q2 q3 q4 q5 q6 p0 p1
     exact bodyPost_ret (v:=.tuple #[.agg #[.slice none 0 0,.int .i64 0,.slice none 0 0,.int .i64 0,.int .i64 0,.int .i64 0,.slice none 0 0],.agg #[.int .i64 0,.int .i64 0],.int .i64 (kIz q.body)]) (by simp [results,Tryz.results56,go_sem,q0,q1,q2,q3,q4,q5,q6,p0,p1]) rfl HF.out.1
   ·have k2:((s1.er:Int) != 0)=true:=by rw [bne,show ((s1.er:Int)==0)=false by rw [beq_eq_false_iff_ne];omega];rfl
    have HR:Hid (kGx qp x=⟨.zero,tl,tc,s1.er⟩):=Lib.hid (by rw [HS1.out,if_neg h2])
    clear h2
    go_enter Tryz.func56,Tryz.ntmps56
    go_wp2_with fail
    refine HC.out.mono ?_
    rintro e w2 ⟨tvv,rfl,hTv,hu2⟩
    obtain⟨ta,tcap,rfl⟩:=hTv.len
    have HTV:=Lib.hid hTv
    have HU2:=Lib.hid hu2
    clear hTv hu2
    go_wp2_with fail
    obtain⟨W4,p,hW4,hpp,hR4,hU4,hX4,hq4,hp4,hord⟩:∃W4 p,W4=(w2.alloc (.cells #[.int .i64 0,.int .i64 0] 36)).alloc (.cells #[.slice ta ts.length tcap,.int .i64 0,.int .i64 0,.int .i64 0] 129)∧p=w2.heap.size+1∧RdAt W4 p ts ⟨0,0,0⟩∧Upto [] w W4∧Cx W4 p ts∧W4.heap[w.heap.size]?=some (.cells #[.slice none 0 0,.int .i64 0,.slice none 0 0,.int .i64 0,.int .i64 0,.int .i64 0,.slice none 0 0] 48 (0,0))∧W4.heap[w.heap.size+1]?=some (.cells #[.int .i64 0,.int .i64 0] 36 (0,0))∧(w.heap.size+1<p):=by
     have ub:=((Upto.refl [] w2).alloc (.cells #[.int .i64 0,.int .i64 0] 36)).alloc (.cells #[.slice ta ts.length tcap,.int .i64 0,.int .i64 0,.int .i64 0] 129)
     have hb2:=HU2.out.at HBP.out (by simp)
     have h2:=kAk hb2
     have h22:=World.block_lt_of_cell? w _ HS.out.c0
     have h23:=HU0.out.size
     refine⟨_,_,rfl,rfl,⟨⟨_,kFz _ _ _,HTV.out.ext ub,?_⟩,HLN.out.1,HFI.out⟩,(HU0.out.trans_ext HU2.out).trans_ext ub,⟨HS.out.upto ((HU0.out.trans_ext HU2.out).trans_ext ub) (by simp),by simp at h22 h23;omega,HLN.out.2⟩,ub.at (HU2.out.at HBQ.out (by simp)) (by simp),ub.at hb2 (by simp),by omega⟩
     intro g o n c e
     rcases HTV.out.at with⟨h0,_⟩ | ⟨g',o',c',e',hat⟩
     ·have:=HLN.out.1;rw [h0] at this;simp at this
     ·rw [e'] at e
      simp at e
      obtain⟨⟨rfl,rfl⟩,-,-⟩:=e
      obtain⟨tt,ht⟩:∃tt,ts[0]?=some tt:=⟨_,List.getElem?_eq_getElem HLN.out.1⟩
      have:=World.block_lt_of_cell? w2 _ (hat _ _ ht).1
      simp at this
      omega
    rw [←hW4,←hpp]
    have HR4:=Lib.hid hR4
    have HU4:=Lib.hid hU4
    have HX4:=Lib.hid hX4
    have HQ4:=Lib.hid hq4
    have HP4:=Lib.hid hp4
    have HO:=Lib.hid hord
    clear hW4 hpp hR4 hU4 hX4 hq4 hp4 hord
    refine (HBY.out W4 p HX4.out HR4.out).mono ?_
    rintro e w5 ⟨vv,rfl,hqn,hR5,hu5,ha5⟩
    obtain⟨g1,g2,g3,oa,na1,na2,na3,sa,ma,qa,la1,la2,la3,rfl⟩:=hqn.seven
    have hua:=(Upto.refl [] w5).alloc (.cells #[.slice g1 g2 g3,.int .i64 oa,.slice na1 na2 na3,.int .i64 sa,.int .i64 ma,.int .i64 qa,.slice la1 la2 la3] 48)
    have HQN:=Lib.hid (hqn.keep (Keep.upto (S:=[]) hua (by simp)))
    have HR5:=Lib.hid (hR5.ext hua)
    have HU5:=Lib.hid (hu5.trans_ext hua)
    have HQ5:=Lib.hid ((hu5.trans_ext hua).at HQ4.out (by have:=HO.out;simp;omega))
    have HP5:=Lib.hid ((hu5.trans_ext hua).at HP4.out (by have:=HO.out;simp;omega))
    have HT5:Hid ((w5.alloc (.cells #[.slice g1 g2 g3,.int .i64 oa,.slice na1 na2 na3,.int .i64 sa,.int .i64 ma,.int .i64 qa,.slice la1 la2 la3] 48)).heap[w5.heap.size]?=some (.cells #[.slice g1 g2 g3,.int .i64 oa,.slice na1 na2 na3,.int .i64 sa,.int .i64 ma,.int .i64 qa,.slice la1 la2 la3] 48 (0,0))):=Lib.hid (kAq _ _)
    have HZ5:=Lib.hid (And.intro (Nat.lt_of_lt_of_le HR4.out.lt hu5.size) (And.intro hu5.size HR4.out.lt))
    have HN:=Lib.hid (kHw _ p ts s' HR5.out)
    clear hqn hR5 hu5 ha5 hua
    go_wp2_with fail
    refine HN.out.mono ?_
    rintro e w6 ⟨rfl,hu6⟩
    rw [HTK.out]
    unfold tkA
    have HR6:=Lib.hid (HR5.out.ext hu6)
    have HUA6:=Lib.hid hu6
    clear hu6 HN
    go_wp2_with fail
    refine (kLj w6 p 3 ts s' HR6.out).mono ?_
    rintro e w7 ⟨rfl,hR7,hu7⟩
    rw [←HSE.out] at hR7
    have HR7:=Lib.hid hR7
    have HUX:=Lib.hid ((HUA6.out.mono (S':=[p]) (by simp)).trans_same hu7)
    clear hR7 hu7
    have HU7:=Lib.hid (HU5.out.trans_same HUX.out)
    have HQ7:=Lib.hid (HUX.out.at HQ5.out (by have:=HO.out;simp;omega))
    have HP7:=Lib.hid (HUX.out.at HP5.out (by have:=HO.out;simp;omega))
    have HT7:=Lib.hid (HUX.out.at HT5.out (by have:=HZ5.out;simp;omega))
    have HQN7:Hid (QnV w7 (New W4) q (.agg #[.slice g1 g2 g3,.int .i64 oa,.slice na1 na2 na3,.int .i64 sa,.int .i64 ma,.int .i64 qa,.slice la1 la2 la3])):=Lib.hid (HQN.out.keep (Keep.upto HUX.out (fun b hb _=>by have:=HZ5.out;unfold New at hb;simp;omega)))
    have HUW:Hid (Upto [] w w7):=Lib.hid (HU4.out.trans HU7.out (fun k hk=>Or.inr (by simp at hk;have:=HO.out;omega)))
    obtain⟨⟨vr,hb7,-,-⟩,-,-⟩:=id HR7.out
    have b2:=kAz hb7 2
    unfold rdC at b2
    simp only [List.getElem?_toArray,List.getElem?_cons_zero,List.getElem?_cons_succ] at b2
    have HB7:=Lib.hid hb7
    have b3:=kAz (((Upto.refl [] w7).drew).at hb7 (by simp)) 2
    unfold rdC at b3
    simp only [List.getElem?_toArray,List.getElem?_cons_zero,List.getElem?_cons_succ] at b3
    have HN7:=Lib.hid (kHw w7.drew p ts s1 (HR7.out.ext ((Upto.refl [] w7).drew)))
    clear hb7
    go_wp2_with fail
    go_region_with (
     refine HN7.out.mono ?_
     rintro e w8 ⟨rfl,hu8⟩
     rw [HT1.out]
     unfold tkA
     have hu8b:=((Upto.refl [] w7).drew).trans_ext hu8
     have hbq:=hu8b.at HQ7.out (by simp)
     have hbp:=hu8b.at HP7.out (by simp)
     have b4:=kAz (hu8b.at HB7.out (by simp)) 2
     unfold rdC at b4
     simp only [List.getElem?_toArray,List.getElem?_cons_zero,List.getElem?_cons_succ] at b4
     obtain⟨z0,z1,z2,z3,z4,z5,z6⟩:=kBw hbq
     obtain⟨y0,y1,y2,y3,y4,y5,y6⟩:=kRk hbq
     obtain⟨d0,d1⟩:=kKx hbp
     obtain⟨f0,f1⟩:=kRz hbp
     have n1:w.heap.size≠p:=by have:=HO.out;omega
     have n2:w.heap.size+1≠p:=by have:=HO.out;omega
     have n3:p≠w.heap.size:=n1.symm
     have n4:p≠w.heap.size+1:=n2.symm
     have HF:=Lib.hid (kWk (q:=.zero) (r:=kGx qp x) (P:=fun _=>False) (li:=tl) (ci:=tc) (ei:=s1.er) (HUW.out.trans_ext hu8b) (Nat.le_refl _) (by omega:w.heap.size≤w.heap.size+1) (by omega) (QnV.zero _ _) (fun b hb=>hb.elim) hbq hbp rfl rfl (by rw [HR.out];exact⟨rfl,rfl,rfl,rfl⟩))
     clear hbq hbp hu8 hu8b)
    all_goals (
     go_wp2_with fail
     have hb7:=HF.out.2.1
     have hb2:=HF.out.2.2
     have q0:=kAz hb7 0
     have q1:=kAz hb7 1
     have q2:=kAz hb7 2
     have q3:=kAz hb7 3
     have q4:=kAz hb7 4
     have q5:=kAz hb7 5
     have q6:=kAz hb7 6
     have p0:=kAz hb2 0
     have p1:=kAz hb2 1
     simp only [List.getElem?_toArray,List.getElem?_cons_zero,List.getElem?_cons_succ] at q0 q1 q2 q3 q4 q5 q6 p0 p1
     exact bodyPost_ret (v:=.tuple #[.agg #[.slice none 0 0,.int .i64 0,.slice none 0 0,.int .i64 0,.int .i64 0,.int .i64 0,.slice none 0 0],.agg #[.int .i64 tl,.int .i64 tc],.int .i64 s1.er]) (by simp [results,Tryz.results56,go_sem,q0,q1,q2,q3,q4,q5,q6,p0,p1]) rfl HF.out.1)
theorem parse_calls (x:List UInt8) (hl:x.length≤281474976710656) (w:World) (he:Env w) (hs:SEnv w):Calls Tryz.prog 39 #[.string ⟨x.toArray⟩] w (PRPost w (kGx kFw x)):=by
 have hu0:Upto [] w ((w.alloc (.cells #[.slice none 0 0,.int .i64 0,.slice none 0 0,.int .i64 0,.int .i64 0,.int .i64 0,.slice none 0 0] 48)).alloc (.cells #[.int .i64 0,.int .i64 0] 36)):=((Upto.refl [] w).alloc _).alloc _
 have HU0:=Lib.hid hu0
 have HBQ:Hid (((w.alloc (.cells #[.slice none 0 0,.int .i64 0,.slice none 0 0,.int .i64 0,.int .i64 0,.int .i64 0,.slice none 0 0] 48)).alloc (.cells #[.int .i64 0,.int .i64 0] 36)).heap[w.heap.size]?=some (.cells #[.slice none 0 0,.int .i64 0,.slice none 0 0,.int .i64 0,.int .i64 0,.int .i64 0,.slice none 0 0] 48 (0,0))):=Lib.hid (kCx (kAq _ _) _)
 have HBP:Hid (((w.alloc (.cells #[.slice none 0 0,.int .i64 0,.slice none 0 0,.int .i64 0,.int .i64 0,.int .i64 0,.slice none 0 0] 48)).alloc (.cells #[.int .i64 0,.int .i64 0] 36)).heap[w.heap.size+1]?=some (.cells #[.int .i64 0,.int .i64 0] 36 (0,0))):=Lib.hid (kFz _ _ _)
 have HC:=Lib.hid (read_calls x hl 67 kFw ((w.alloc (.cells #[.slice none 0 0,.int .i64 0,.slice none 0 0,.int .i64 0,.int .i64 0,.int .i64 0,.slice none 0 0] 48)).alloc (.cells #[.int .i64 0,.int .i64 0] 36)) (he.ext hu0) (hs.upto hu0 (by simp)) (kMq Tryz.func67 (by kernel_rfl) rfl)
  (fun l hf h0=>by obtain⟨q,s',e,a,z,-⟩:=queryP_ok hf h0;exact⟨q,s',e,a,z⟩)
  (fun w p l q s' htx hX hR hqp=>query1_calls w p l htx ⟨0,0,0⟩ s' q hX hR (by decide) hqp))
 clear hu0 he hs
 go_enter Tryz.func39,Tryz.ntmps39
 go_wp2_with fail
 refine HC.out.mono ?_
 rintro e w2 ⟨vv,rfl,hqv,hu2⟩
 obtain⟨g1,g2,g3,oa,na1,na2,na3,sa,ma,qa,la1,la2,la3,rfl⟩:=hqv.seven
 have hbq:=hu2.at HBQ.out (by simp)
 have hbp:=hu2.at HBP.out (by simp)
 obtain⟨z0,z1,z2,z3,z4,z5,z6⟩:=kBw hbq
 obtain⟨y0,y1,y2,y3,y4,y5,y6⟩:=kRk hbq
 obtain⟨d0,d1⟩:=kKx hbp
 obtain⟨f0,f1⟩:=kRz hbp
 have HF:=Lib.hid (kWk (r:=kGx kFw x) (P:=New ((w.alloc (.cells #[.slice none 0 0,.int .i64 0,.slice none 0 0,.int .i64 0,.int .i64 0,.int .i64 0,.slice none 0 0] 48)).alloc (.cells #[.int .i64 0,.int .i64 0] 36))) (li:=(kGx kFw x).line) (ci:=(kGx kFw x).col) (ei:=(kGx kFw x).er) (HU0.out.trans_ext hu2) (Nat.le_refl _) (by omega:w.heap.size≤w.heap.size+1) (by omega) hqv (fun b hb _=>by unfold New at hb ⊢;simp at hb;omega) hbq hbp rfl rfl ⟨rfl,rfl,rfl,rfl⟩)
 clear hbq hbp hu2 hqv HC
 go_wp2_with fail
 have hb7:=HF.out.2.1
 have hb2:=HF.out.2.2
 have q0:=kAz hb7 0
 have q1:=kAz hb7 1
 have q2:=kAz hb7 2
 have q3:=kAz hb7 3
 have q4:=kAz hb7 4
 have q5:=kAz hb7 5
 have q6:=kAz hb7 6
 have p0:=kAz hb2 0
 have p1:=kAz hb2 1
 simp only [List.getElem?_toArray,List.getElem?_cons_zero,List.getElem?_cons_succ] at q0 q1 q2 q3 q4 q5 q6 p0 p1
 exact bodyPost_ret (v:=.tuple #[.agg #[.slice g1 g2 g3,.int .i64 oa,.slice na1 na2 na3,.int .i64 sa,.int .i64 ma,.int .i64 qa,.slice la1 la2 la3],.agg #[.int .i64 (kGx kFw x).line,.int .i64 (kGx kFw x).col],.int .i64 (kGx kFw x).er]) (by simp [results,Tryz.results39,go_sem,q0,q1,q2,q3,q4,q5,q6,p0,p1]) rfl HF.out.1
def FmPost (w:World) (r:PR) (e:Ending) (w':World):Prop :=
 ∃v,e=.returned (.tuple #[v,.agg #[.int .i64 r.line,.int .i64 r.col],.int .i64 r.er])∧NdV w' (New w) r.q.body v∧Upto [] w w'
theorem FmPost.drew {w w':World} {r:PR} {e:Ending} (h:FmPost w r e w'):FmPost w r e w'.drew:=by
 obtain⟨v,he,hq,hu⟩:=h
 exact⟨v,he,NdV.keep (w:=w') (w':=w'.drew) ⟨Nat.le_refl _,fun b hb _=>⟨hb,rfl⟩⟩ _ _ hq,hu.drew⟩
theorem kn_fin {w w1:World} {r:PR} {a b c d e f g:Value} (hu:Upto [] w w1) (hq:QnV w1 (New w) r.q (.agg #[a,b,c,d,e,f,g])) :
  QnV ((w1.alloc (.cells #[a,b,c,d,e,f,g] 48)).alloc (.cells #[.int .i64 r.line,.int .i64 r.col] 36)) (New w) r.q (.agg #[a,b,c,d,e,f,g])∧Upto [] w ((w1.alloc (.cells #[a,b,c,d,e,f,g] 48)).alloc (.cells #[.int .i64 r.line,.int .i64 r.col] 36)) ∧
  ((w1.alloc (.cells #[a,b,c,d,e,f,g] 48)).alloc (.cells #[.int .i64 r.line,.int .i64 r.col] 36)).heap[w1.heap.size]?=some (.cells #[a,b,c,d,e,f,g] 48 (0,0))∧((w1.alloc (.cells #[a,b,c,d,e,f,g] 48)).alloc (.cells #[.int .i64 r.line,.int .i64 r.col] 36)).heap[w1.heap.size+1]?=some (.cells #[.int .i64 r.line,.int .i64 r.col] 36 (0,0))∧Upto [] w1 ((w1.alloc (.cells #[a,b,c,d,e,f,g] 48)).alloc (.cells #[.int .i64 r.line,.int .i64 r.col] 36)):=by
 have ha:Upto [] w1 ((w1.alloc (.cells #[a,b,c,d,e,f,g] 48)).alloc (.cells #[.int .i64 r.line,.int .i64 r.col] 36)):=((Upto.refl [] w1).alloc _).alloc _
 exact⟨QnV.keep (Keep.upto ha (by simp)) hq,hu.trans_ext ha,kCx (kAq _ _) _,kFz _ _ _,ha⟩
mutual
def kWq:Nd→Bool
 | .mk _ names _ _ _ l=>decide (names.length≤20)&&decide (l.length≤5)&&names.all (fun x=>decide (x.length≤20))&&shortsP l
def shortsP:List Nd→Bool
 | []=>true
 | x::xs=>kWq x&&shortsP xs
end
theorem shortsP_all:∀(l:List Nd),shortsP l=true↔∀x∈l,kWq x=true
 | []=>by simp [shortsP]
 | x::xs=>by unfold shortsP;simp [shortsP_all xs]
def fewF (n:Nd):Bool:=decide (kNw n≤60)&&decide (kCz n≤300)&&kWq n
def kVx (q:Qn):Bool:=decide (q.free.length≤20)&&fewF q.body&&q.free.all (fun x=>decide (x.1.length≤20))
theorem short_calls:∀(k:Nat) (nd:Nd),kCz nd≤k→bigN nd→k≤10000000→∀(v:Value) (w:World) (P:Nat→Prop),NdV w P nd v→Calls Tryz.prog 103 #[v] w fun e w'=>e=.returned (.bool (kWq nd))∧Upto [] w w'
 | 0,nd,hk,_,_,_,_,_,_=>by have:=kJx nd;omega
 | k+1,.mk op nms so nn mm l,hk,hbg,hk7,v,w,P,h=>by
  obtain⟨a1,c1,a2,c2,rfl,hs,hg⟩:=h.open
  unfold bigN at hbg
  have HG:=Lib.hid hg
  obtain⟨a1',c1',ev,hnm⟩:=hs.get
  obtain⟨rfl,rfl⟩:a1=a1'∧c1=c1':=by simpa using ev
  have HN:Hid (∀i x,nms[i]?=some x→∃g o,a1=some ⟨g,o,none⟩∧w.cell? ⟨g,o+i,none⟩=some (.string ⟨x.toArray⟩)):=Lib.hid (fun i x hi=>hnm i _ (by rw [List.getElem?_map,hi];rfl))
  have hsz:kBk l≤k:=by simp only [kCz] at hk;omega
  have HSZ:=Lib.hid hsz
  have HBG:=Lib.hid hbg.2
  have HLEN:Hid (l.length≤10000000):=Lib.hid (by have:=kXj l;omega)
  have hlen:=HLEN.out
  have hnl:=hbg.1
  have hu1:Upto [] w (w.alloc (.cells #[.int .i64 op,.slice a1 nms.length c1,.int .i64 so,.int .i64 nn,.int .i64 mm,.slice a2 l.length c2] 25)):=(Upto.refl [] w).alloc _
  have HB1:=Lib.hid (kAq w (.cells #[.int .i64 op,.slice a1 nms.length c1,.int .i64 so,.int .i64 nn,.int .i64 mm,.slice a2 l.length c2] 25))
  have HU1:=Lib.hid hu1
  have hL0:(0:Int)≤l.length:=by omega
  have hL1:(l.length:Int)≤10000000:=by omega
  have hN0:(0:Int)≤nms.length:=by omega
  have hN1:(nms.length:Int)≤10000000:=by omega
  clear h hs hg hsz hlen hk hu1 hnm ev hbg
  by_cases hq:20<nms.length
  ·have HF:Hid (kWq (.mk op nms so nn mm l)=false):=Lib.hid (by unfold kWq;simp;omega)
   have hqI:(20:Int)<nms.length:=by omega
   clear hq
   go_enter Tryz.func103,Tryz.ntmps103
   go_wp2_with fail
   go_ret
   rw [HF.out]
   exact⟨rfl,HU1.out⟩
  have hqI:¬(20:Int)<nms.length:=by omega
  by_cases hq2:5<l.length
  ·have HF:Hid (kWq (.mk op nms so nn mm l)=false):=Lib.hid (by unfold kWq;simp;omega)
   have hqJ:(5:Int)<l.length:=by omega
   clear hq hq2
   go_enter Tryz.func103,Tryz.ntmps103
   go_wp2_with fail
   go_ret
   rw [HF.out]
   exact⟨rfl,HU1.out⟩
  have hqJ:¬(5:Int)<l.length:=by omega
  have HQ:=Lib.hid (And.intro hq hq2)
  clear hq2
  clear hq
  go_enter Tryz.func103,Tryz.ntmps103
  go_wp2_with fail
  go_loopw [3] (fun i wr=>∃j:Nat,j≤nms.length∧i=.int .i64 j∧Hid (∀q x,q<j→nms[q]?=some x→x.length≤20)∧Hid (Upto [] (w.alloc (.cells #[.int .i64 op,.slice a1 nms.length c1,.int .i64 so,.int .i64 nn,.int .i64 mm,.slice a2 l.length c2] 25)) wr)) (fun i _=>nms.length-(intOf i).toNat)
  case atStart=>exact⟨0,by omega,rfl,Lib.hid (fun q x hq=>by omega),Lib.hid (Upto.refl _ _)⟩
  case round =>
   obtain⟨j,hj,rfl,HA,HU⟩:=hrel
   have hj0:(0:Int)≤j:=by omega
   have hb:=HU.out.at HB1.out (by simp)
   have y1:=kAz hb 1
   have y5:=kAz hb 5
   simp only [List.getElem?_toArray,List.getElem?_cons_zero,List.getElem?_cons_succ] at y1 y5
   rcases Nat.lt_or_ge j nms.length with hlt | hge
   ·have hltI:(j:Int)<nms.length:=by omega
    obtain⟨x,hx⟩:∃x,nms[j]?=some x:=⟨_,List.getElem?_eq_getElem hlt⟩
    obtain⟨g,o,rfl,c0⟩:=HN.out j x hx
    have hw:=HU1.out.trans_ext HU.out
    replace c0:=kAw hw c0
    have hsx:(ByteArray.mk x.toArray).size=x.length:=rfl
    have HW:=Lib.hid hw
    by_cases hlx:20<x.length
    ·have hlI:(20:Int)<x.length:=by omega
     have HF:Hid (kWq (.mk op nms so nn mm l)=false):=Lib.hid (by
      unfold kWq
      have:nms.all (fun x=>decide (x.length≤20))=false:=by
       rw [Bool.eq_false_iff]
       intro h
       have:=List.all_eq_true.1 h x (List.mem_of_getElem? hx)
       simp at this
       omega
      simp [this])
     clear hx hb hw hlx
     go_wp2_with fail
     go_ret
     rw [HF.out]
     exact⟨rfl,HW.out⟩
    ·have hlI:¬(20:Int)<x.length:=by omega
     have HA2:Hid (∀q x,q<j+1→nms[q]?=some x→x.length≤20):=Lib.hid (fun q y hq hy=>by
      by_cases hqj:q=j
      ·subst hqj
       rw [hx] at hy
       cases hy
       omega
      ·exact HA.out q y (by omega) hy)
     clear hx hb hw hlx
     go_wp2_with fail
     go_roundw
     case rel=>exact⟨j+1,by omega,by go_num,HA2,HU⟩
     case measure=>simp [intOf];omega
   ·have hgeI:¬(j:Int)<nms.length:=by omega
    have HALL:Hid (nms.all (fun x=>decide (x.length≤20))=true):=Lib.hid (by
     rw [List.all_eq_true]
     intro x hx
     obtain⟨q,hq,rfl⟩:=List.mem_iff_getElem.1 hx
     simpa using HA.out q _ (by omega) (List.getElem?_eq_getElem hq))
    have HB2:=Lib.hid hb
    have HUA:=Lib.hid (HU1.out.trans_ext HU.out)
    clear hb HA
    go_wp2_with fail
    go_loopw [4] (fun i wx=>∃m:Nat,m≤l.length∧i=.int .i64 m∧Hid (∀q x,q<m→l[q]?=some x→kWq x=true)∧Hid (Upto [] wr wx)) (fun i _=>l.length-(intOf i).toNat)
    case atStart=>exact⟨0,by omega,rfl,Lib.hid (fun q x hq=>by omega),Lib.hid (Upto.refl _ _)⟩
    case round =>
     clear y1 y5
     obtain⟨m,hm,rfl,HB9,HV⟩:=hrel
     have hm0:(0:Int)≤m:=by omega
     have hb:=HV.out.at HB2.out (by simp)
     have y5:=kAz hb 5
     simp only [List.getElem?_toArray,List.getElem?_cons_zero,List.getElem?_cons_succ] at y5
     have HW:=Lib.hid (HUA.out.trans_ext HV.out)
     rcases Nat.lt_or_ge m l.length with hlt | hge
     ·have hltI:(m:Int)<l.length:=by omega
      obtain⟨x,hx⟩:∃x,l[m]?=some x:=⟨_,List.getElem?_eq_getElem hlt⟩
      obtain⟨g,o,xo,xn1,xn2,xn3,xs,xm,xq,xl1,xl2,xl3,rfl,d0,d1,d2,d3,d4,d5,hnx⟩:=HG.out m x hx
      replace d0:=kAw HW.out d0
      replace d1:=kAw HW.out d1
      replace d2:=kAw HW.out d2
      replace d3:=kAw HW.out d3
      replace d4:=kAw HW.out d4
      replace d5:=kAw HW.out d5
      have HC:=Lib.hid (short_calls k x (by have:=HSZ.out;have:=kSx (List.mem_of_getElem? hx);omega) (bigs_mem HBG.out (List.mem_of_getElem? hx)) (by omega) _ wr P (hnx.ext HW.out))
      have hbb:kWq x=true∨kWq x=false:=by cases kWq x<;>simp
      rcases hbb with hb2 | hb2
      ·have HA2:Hid (∀q x,q<m+1→l[q]?=some x→kWq x=true):=Lib.hid (fun q y hq hy=>by
        by_cases hqj:q=m
        ·subst hqj
         rw [hx] at hy
         cases hy
         exact hb2
        ·exact HB9.out q y (by omega) hy)
       rw [hb2] at HC
       clear hx hb hb2 hnx
       go_wp2_with fail
       refine HC.out.mono ?_
       rintro e w5 ⟨rfl,hu5⟩
       have HU5:=Lib.hid (HV.out.trans_ext hu5)
       clear hu5
       go_wp2_with fail
       go_roundw
       case rel=>exact⟨m+1,by omega,by go_num,HA2,HU5⟩
       case measure=>simp [intOf];omega
      ·have HF:Hid (kWq (.mk op nms so nn mm l)=false):=Lib.hid (by
        unfold kWq
        have:shortsP l=false:=by
         rw [Bool.eq_false_iff]
         intro h
         rw [shortsP_all] at h
         rw [h x (List.mem_of_getElem? hx)] at hb2
         cases hb2
        simp [this])
       rw [hb2] at HC
       clear hx hb hb2 hnx
       go_wp2_with fail
       refine HC.out.mono ?_
       rintro e w5 ⟨rfl,hu5⟩
       have HU5:=Lib.hid (HW.out.trans_ext hu5)
       clear hu5
       go_wp2_with fail
       go_ret
       rw [HF.out]
       exact⟨rfl,HU5.out⟩
     ·have hgeI:¬(m:Int)<l.length:=by omega
      have HF:Hid (kWq (.mk op nms so nn mm l)=true):=Lib.hid (by
       unfold kWq
       have h2:shortsP l=true:=by
        rw [shortsP_all]
        intro x hx
        obtain⟨q,hq,rfl⟩:=List.mem_iff_getElem.1 hx
        exact HB9.out q _ (by omega) (List.getElem?_eq_getElem hq)
       have:=HQ.out
       rw [HALL.out,h2]
       simp
       omega)
      clear hb
      go_wp2_with fail
      go_ret
      rw [HF.out]
      exact⟨rfl,HW.out⟩
theorem few_calls (nd:Nd) (v:Value) (w:World) (P:Nat→Prop) (h:NdV w P nd v) (hk:kCz nd≤10000000) (hb:bigN nd):Calls Tryz.prog 69 #[v] w fun e w'=>e=.returned (.bool (fewF nd))∧Upto [] w w':=by
 obtain⟨xo,xn1,xn2,xn3,xs,xm,xq,xl1,xl2,xl3,rfl⟩:=h.six
 have hua:Upto [] w (w.alloc (.cells #[.int .i64 xo,.slice xn1 xn2 xn3,.int .i64 xs,.int .i64 xm,.int .i64 xq,.slice xl1 xl2 xl3] 25)):=(Upto.refl [] w).alloc _
 have HS:=Lib.hid (fun u (hu:Upto [] w u)=>count_calls _ nd hk (Nat.le_refl _) _ u P (h.ext hu))
 have HD:=Lib.hid (fun u (hu:Upto [] w u)=>deep_calls _ nd hk (Nat.le_refl _) _ u P (h.ext hu))
 have HM:=Lib.hid (fun u (hu:Upto [] w u)=>short_calls _ nd (Nat.le_refl _) hb hk _ u P (h.ext hu))
 have HUA:=Lib.hid hua
 have HNB:=Lib.hid (kAq w (.cells #[.int .i64 xo,.slice xn1 xn2 xn3,.int .i64 xs,.int .i64 xm,.int .i64 xq,.slice xl1 xl2 xl3] 25))
 have hd:=kQj nd
 clear h hua hb
 by_cases h1:60<kNw nd
 ·have hI:¬(kNw nd:Int)≤60:=by omega
  have HF:Hid (fewF nd=false):=Lib.hid (by unfold fewF;simp;omega)
  go_enter Tryz.func69,Tryz.ntmps69
  go_wp2_with fail
  refine (HD.out _ HUA.out).mono ?_
  rintro e w5 ⟨rfl,hu5⟩
  have HU5:=Lib.hid (HUA.out.trans_ext hu5)
  clear hu5
  go_wp2_with fail
  go_ret
  rw [HF.out]
  exact⟨rfl,HU5.out⟩
 have hI:(kNw nd:Int)≤60:=by omega
 by_cases h2:300<kCz nd
 ·have hJ:¬(kCz nd:Int)≤300:=by omega
  have HF:Hid (fewF nd=false):=Lib.hid (by unfold fewF;simp;omega)
  go_enter Tryz.func69,Tryz.ntmps69
  go_wp2_with fail
  refine (HD.out _ HUA.out).mono ?_
  rintro e w5 ⟨rfl,hu5⟩
  have HU5:=Lib.hid (HUA.out.trans_ext hu5)
  have HB5:=Lib.hid (hu5.at HNB.out (by simp))
  have hb5:=HB5.out
  obtain⟨y0,y1,y2,y3,y4,y5⟩:=kAx hb5
  clear hu5 hb5
  go_wp2_with fail
  refine (HS.out _ HU5.out).mono ?_
  rintro e w6 ⟨rfl,hu6⟩
  have HU6:=Lib.hid (HU5.out.trans_ext hu6)
  clear hu6
  go_wp2_with fail
  go_ret
  rw [HF.out]
  exact⟨rfl,HU6.out⟩
 have hJ:(kCz nd:Int)≤300:=by omega
 have HF:Hid (fewF nd=kWq nd):=Lib.hid (by
  unfold fewF
  have a:kCz nd≤300:=by omega
  have b:kNw nd≤60:=by omega
  simp [a,b])
 go_enter Tryz.func69,Tryz.ntmps69
 go_wp2_with fail
 refine (HD.out _ HUA.out).mono ?_
 rintro e w5 ⟨rfl,hu5⟩
 have HU5:=Lib.hid (HUA.out.trans_ext hu5)
 have HB5:=Lib.hid (hu5.at HNB.out (by simp))
 have hb5:=HB5.out
 obtain⟨y0,y1,y2,y3,y4,y5⟩:=kAx hb5
 clear hu5 hb5
 go_wp2_with fail
 refine (HS.out _ HU5.out).mono ?_
 rintro e w6 ⟨rfl,hu6⟩
 have HU6:=Lib.hid (HU5.out.trans_ext hu6)
 have hb6:=hu6.at HB5.out (by simp)
 obtain⟨z0,z1,z2,z3,z4,z5⟩:=kAx hb6
 clear hu6 hb6
 go_wp2_with fail
 refine (HM.out _ HU6.out).mono ?_
 rintro e w7 ⟨rfl,hu7⟩
 have HU7:=Lib.hid (HU6.out.trans_ext hu7)
 clear hu7
 go_wp2_with fail
 go_ret
 rw [HF.out]
 exact⟨rfl,HU7.out⟩
theorem kVw (q:Qn) (v:Value) (w:World) (P:Nat→Prop) (h:QnV w P q v) (hk:kCz q.body≤10000000) (hb:bigN q.body) (hl:q.free.length≤10000000) (hfn:∀y∈q.free,y.1.length≤10000000):Calls Tryz.prog 41 #[v] w fun e w'=>e=.returned (.bool (kVx q))∧Upto [] w w':=by
 obtain⟨f1,f3,o1,a1,a2,a3,s1,n1,m1,l1,l2,l3,rfl,hv,hn⟩:=h.open
 have HFW:=Lib.hid (fun u (hu:Upto [] w u)=>few_calls q.body _ u P (hn.ext hu) hk hb)
 have HVS:=Lib.hid (kWj hv)
 obtain⟨L,hL⟩:∃L,q.free.length=L:=⟨_,rfl⟩
 rw [hL] at hl ⊢
 have HL:=Lib.hid hL
 have HFN:=Lib.hid hfn
 have hu1:Upto [] w (w.alloc (.cells #[.slice f1 L f3,.int .i64 o1,.slice a1 a2 a3,.int .i64 s1,.int .i64 n1,.int .i64 m1,.slice l1 l2 l3] 45)):=(Upto.refl [] w).alloc _
 have HU1:=Lib.hid hu1
 have hb1:=kAq w (.cells #[.slice f1 L f3,.int .i64 o1,.slice a1 a2 a3,.int .i64 s1,.int .i64 n1,.int .i64 m1,.slice l1 l2 l3] 45)
 have HB1:=Lib.hid hb1
 obtain⟨y0,y1,y2,y3,y4,y5,y6⟩:=kBw hb1
 have hL0:(0:Int)≤L:=by omega
 have hL1:(L:Int)≤10000000:=by omega
 clear h hv hn hk hb hl hfn hu1 hb1
 by_cases h20:20<L
 ·have hI:(20:Int)<L:=by omega
  have HF:Hid (kVx q=false):=Lib.hid (by unfold kVx;have:=HL.out;simp;omega)
  clear h20 hL
  go_enter Tryz.func41,Tryz.ntmps41
  go_wp2_with fail
  go_ret
  rw [HF.out]
  exact⟨rfl,HU1.out⟩
 have hI:¬(20:Int)<L:=by omega
 have hbb:fewF q.body=true∨fewF q.body=false:=by cases fewF q.body<;>simp
 rcases hbb with hf | hf
 case inr =>
  have HF:Hid (kVx q=false):=Lib.hid (by unfold kVx;simp [hf])
  rw [hf] at HFW
  clear h20 hL hf
  go_enter Tryz.func41,Tryz.ntmps41
  go_wp2_with fail
  refine (HFW.out _ HU1.out).mono ?_
  rintro e w2 ⟨rfl,hu2⟩
  have HU2:=Lib.hid (HU1.out.trans_ext hu2)
  clear hu2
  go_wp2_with fail
  go_ret
  rw [HF.out]
  exact⟨rfl,HU2.out⟩
 have HF:Hid (kVx q=q.free.all (fun x=>decide (x.1.length≤20))):=Lib.hid (by
  unfold kVx
  have:q.free.length≤20:=by omega
  simp [hf,this])
 rw [hf] at HFW
 clear h20 hL hf
 go_enter Tryz.func41,Tryz.ntmps41
 go_wp2_with fail
 refine (HFW.out _ HU1.out).mono ?_
 rintro e w2 ⟨rfl,hu2⟩
 have HU2:=Lib.hid (HU1.out.trans_ext hu2)
 have HB2:=Lib.hid (hu2.at HB1.out (by simp))
 clear hu2 y0 y1 y2 y3 y4 y5 y6
 go_wp2_with fail
 go_loopw [3] (fun i wr=>∃j:Nat,j≤L∧i=.int .i64 j∧Hid (∀p x,p<j→q.free[p]?=some x→x.1.length≤20)∧Hid (Upto [] w2 wr)) (fun i _=>L-(intOf i).toNat)
 case atStart=>exact⟨0,by omega,rfl,Lib.hid (fun p x hp=>by omega),Lib.hid (Upto.refl _ _)⟩
 case round =>
  obtain⟨j,hj,rfl,HA,HU⟩:=hrel
  have hj0:(0:Int)≤j:=by omega
  have HW:=Lib.hid (HU2.out.trans_ext HU.out)
  have hb:=HU.out.at HB2.out (by simp)
  obtain⟨z0,z1,z2,z3,z4,z5,z6⟩:=kBw hb
  clear hb
  rcases Nat.lt_or_ge j L with hlt | hge
  ·have hltI:(j:Int)<L:=by omega
   obtain⟨⟨x1,x2⟩,hx⟩:∃x,q.free[j]?=some x:=⟨_,List.getElem?_eq_getElem (by rw [HL.out];exact hlt)⟩
   obtain⟨g,o,rfl,d0,d1⟩:=HVS.out j _ hx
   simp only at d0 d1
   replace d0:=kAw HW.out d0
   have hxl:=HFN.out _ (List.mem_of_getElem? hx)
   simp only at hxl
   have s0:(ByteArray.mk x1.toArray).size=x1.length:=rfl
   clear d1
   by_cases hlx:20<x1.length
   ·have hlI:(20:Int)<x1.length:=by omega
    have HF2:Hid (kVx q=false):=Lib.hid (by
     rw [HF.out,Bool.eq_false_iff]
     intro h
     have:=List.all_eq_true.1 h _ (List.mem_of_getElem? hx)
     simp at this
     omega)
    clear hx hlx
    go_wp2_with fail
    go_ret
    rw [HF2.out]
    exact⟨rfl,HW.out⟩
   ·have hlI:¬(20:Int)<x1.length:=by omega
    have HA2:Hid (∀p x,p<j+1→q.free[p]?=some x→x.1.length≤20):=Lib.hid (fun p y hp hy=>by
     by_cases hpj:p=j
     ·subst hpj
      rw [hx] at hy
      cases hy
      simpa using hlx
     ·exact HA.out p y (by omega) hy)
    clear hx hlx
    go_wp2_with fail
    go_roundw
    case rel=>exact⟨j+1,by omega,by go_num,HA2,HU⟩
    case measure=>simp [intOf];omega
  ·have hgeI:¬(j:Int)<L:=by omega
   have HF2:Hid (kVx q=true):=Lib.hid (by
    rw [HF.out,List.all_eq_true]
    intro x hx
    obtain⟨p,hp,rfl⟩:=List.mem_iff_getElem.1 hx
    simpa using HA.out p _ (by have:=HL.out;omega) (List.getElem?_eq_getElem hp))
   go_wp2_with fail
   go_ret
   rw [HF2.out]
   exact⟨rfl,HW.out⟩
structure OfRow (w0 w:World) (B:Nat) (c:Nat→Nat→Value) (v:Value) (ms:List Nd):Prop where
 row:w.ownsRow 0 34 6 v ms.length (cellsN c ms.length)
 nd:∀i m,ms[i]?=some m→NdV w (Lr w0 B v) m (.agg #[c i 0,c i 1,c i 2,c i 3,c i 4,c i 5])
 own:∀g,v.ownBlock=some g→w0.heap.size≤g∧g≠B
theorem OfRow.upto {w0 w w':World} {S:List Nat} {B:Nat} {c:Nat→Nat→Value} {v:Value} {ms:List Nd} (h:OfRow w0 w B c v ms) (hu:Upto S w w') (hS:∀k∈S,k<w0.heap.size∨k=B):OfRow w0 w' B c v ms :=
 ⟨kIx h.row hu (fun g hg hm=>by have h1:=h.own g hg;rcases hS g hm with h2 | h2<;>omega),
  fun i m hi=>(h.nd i m hi).upto hu (fun b hb _ hm=>by have h1:=hb.1;unfold New at h1;rcases hS b hm with h2 | h2;omega;exact hb.2.1 h2),h.own⟩
theorem OfRow.app {w0 w w5:World} {B:Nat} {c:Nat→Nat→Value} {v:Value} {ms:List Nd} {m:Nd} {v0 v1 v2 v3 v4 v5:Value} {b':Option Addr} {c':Nat} (h:OfRow w0 w B c v ms) (hsz:w0.heap.size≤w.heap.size) (hBw:B<w.heap.size)
  (hm:NdV w (Lr w0 B v) m (.agg #[v0,v1,v2,v3,v4,v5])) (ho:w5.ownsRow 0 34 6 (.slice b' (ms.length+1) c') (ms.length+1) (cellsN c ms.length++[v0,v1,v2,v3,v4,v5])) (hu:Upto v.ownBlock.toList w w5)
  (hw:∀g,(Value.slice b' (ms.length+1) c').ownBlock=some g→v.ownBlock=some g∨w.heap.size≤g):OfRow w0 w5 B (addC c ms.length v0 v1 v2 v3 v4 v5) (.slice b' (ms.length+1) c') (ms++[m]):=by
 have key:∀x u,NdV w (Lr w0 B v) x u→NdV w5 (Lr w0 B (.slice b' (ms.length+1) c')) x u:=fun x u hx =>
  NdV.keep ⟨hu.size,fun b hb hl=>⟨⟨hb.1,hb.2.1,fun e=>by
   rcases hw b e with h1 | h1
   ·exact hb.2.2 h1
   ·have:=hl.lt;omega⟩,hu.block b hl.lt (fun hmm=>hb.2.2 (Option.mem_toList.1 hmm))⟩⟩ x u hx
 refine⟨?_,?_,?_⟩
 ·rw [List.length_append,List.length_singleton,cellsN_add]
  exact ho
 ·intro i x hi
  by_cases hlt:i<ms.length
  ·rw [List.getElem?_append_left hlt] at hi
   have:=key _ _ (h.nd i x hi)
   simpa [addC,Nat.ne_of_lt hlt] using this
  ·rw [List.getElem?_append_right (by omega)] at hi
   cases hd:i-ms.length with
   | zero =>
    rw [hd] at hi
    simp at hi
    subst hi
    have:i=ms.length:=by omega
    subst this
    simpa [addC] using key _ _ hm
   | succ z=>rw [hd] at hi;simp at hi
 ·intro g hg
  rcases hw g hg with h1 | h1
  ·exact h.own g h1
  ·exact⟨by omega,by omega⟩
theorem OfRow.list {w0 w:World} {B:Nat} {c:Nat→Nat→Value} {v:Value} {ms:List Nd} {Q:Nat→Prop} (h:OfRow w0 w B c v ms) (h1:∀b,Lr w0 B v b→Q b) (h2:∀g,v.ownBlock=some g→Q g):(ms=[]∧∃a c,v=.slice a 0 c)∨∃g o c,v=.slice (some ⟨g,o,none⟩) ms.length c∧(Q g∧IsC w g)∧NdsV w Q g o ms:=by
 rcases h.row.2 with⟨e,h0⟩ | ⟨g,cap,cur,e,_,hh,_,_,_,ht⟩
 ·exact Or.inl ⟨List.eq_nil_of_length_eq_zero h0,none,0,e⟩
 ·refine Or.inr ⟨g,0,cap,e,⟨h2 g (by rw [e];rfl),_,_,_,hh⟩,nds_of ms 0 fun i x hi=>?_⟩
  have hil:i<ms.length:=(List.getElem?_eq_some_iff.1 hi).1
  have cl:∀j,j<6→w.cell? ⟨g,0+i*6+j,none⟩=some (c i j):=fun j hj=>by
   rw [kAz hh]
   have:=cellsN_at c hil hj
   rw [←ht,List.getElem?_take] at this
   split at this
   ·simpa using this
   ·cases this
  exact⟨_,_,_,_,_,_,cl 0 (by omega),cl 1 (by omega),cl 2 (by omega),cl 3 (by omega),cl 4 (by omega),cl 5 (by omega),(h.nd i x hi).mono fun b hb _=>h1 b hb⟩
theorem infoO4:(Tryz.prog.info? 34).map (fun i=>(i.zero,i.size,i.bytes))=some (some (.agg #[.int .i64 0,.slice none 0 0,.int .i64 0,.int .i64 0,.int .i64 0,.slice none 0 0]),6,80):=by kernel_rfl
theorem infoO4':∃i,Tryz.prog.info? 34=some i∧i.zero=some (.agg #[.int .i64 0,.slice none 0 0,.int .i64 0,.int .i64 0,.int .i64 0,.slice none 0 0])∧i.size=6∧i.bytes=80:=by
 have h:=infoO4
 cases hi:Tryz.prog.info? 34 with
 | none=>rw [hi] at h;cases h
 | some i =>
  rw [hi] at h
  simp only [Option.map_some,Option.some.injEq,Prod.mk.injEq] at h
  exact⟨i,rfl,h.1,h.2.1,h.2.2⟩
structure OfI (w w9:World) (bn:Nat) (op so nn mm:Int) (na:Option Addr) (nl nc:Nat) (ns:List Value) (l:List Nd) (j:Nat) (wr:World):Prop where
 up:Upto [bn] w9 wr
 old:Upto [] w wr
 st:∃(va:Option Addr) (vn vc:Nat) (c:Nat→Nat→Value),wr.heap[bn]?=some (.cells #[.int .i64 op,.slice na nl nc,.int .i64 so,.int .i64 nn,.int .i64 mm,.slice va vn vc] 34 (0,0))∧OfRow w9 wr bn c (.slice va vn vc) (l.take j)
theorem of_step {w w9 wr w10 w5 W:World} {bn:Nat} {op so nn mm:Int} {na:Option Addr} {nl nc:Nat} {ns:List Value} {l:List Nd} {vn:Nat} {va:Option Addr} {vc:Nat} {c:Nat→Nat→Value} {x:Nd} {v0 v1 v2 v3 v4 v5:Value} {b5:Option Addr} {c5:Nat}
  (HI:OfI w w9 bn op so nn mm na nl nc ns l vn wr) (HLT:W.heap.size≤bn∧bn<w9.heap.size) (HWL:w.heap.size<W.heap.size) (HUP:Upto [] W w9)
  (hbk:wr.heap[bn]?=some (.cells #[.int .i64 op,.slice na nl nc,.int .i64 so,.int .i64 nn,.int .i64 mm,.slice va vn vc] 34 (0,0))) (hrow:OfRow w9 wr bn c (.slice va vn vc) (l.take vn))
  (hu:Upto [] wr w10) (hn:NdV w10 (New wr) x (.agg #[v0,v1,v2,v3,v4,v5])) (hjl:(l.take vn).length=vn) (htk:l.take (vn+1)=l.take vn++[x])
  (ho5:w5.ownsRow 0 34 6 (.slice b5 (vn+1) c5) (vn+1) (cellsN c vn++[v0,v1,v2,v3,v4,v5])) (hu5:Upto (Value.slice va vn vc).ownBlock.toList w10 w5) (hw5:∀g,(Value.slice b5 (vn+1) c5).ownBlock=some g→(Value.slice va vn vc).ownBlock=some g∨w10.heap.size≤g) :
  w5.heap[bn]?=some (.cells #[.int .i64 op,.slice na nl nc,.int .i64 so,.int .i64 nn,.int .i64 mm,.slice va vn vc] 34 (0,0))∧OfI w w9 bn op so nn mm na nl nc ns l (vn+1) (w5.setCell ⟨bn,5,none⟩ (.slice b5 (vn+1) c5)):=by
 have hown:∀g,g∈(Value.slice va vn vc).ownBlock.toList→w9.heap.size≤g∧g≠bn:=fun g hg=>hrow.own g (Option.mem_toList.1 hg)
 have hold:∀g,(Value.slice va vn vc).ownBlock=some g→g<wr.heap.size:=fun g hg=>by
  obtain⟨cur,hh⟩:=kOq hrow.row hg
  exact kAk hh
 have hb5:=hu5.at (hu.at hbk (by simp)) (fun hm=>(hown _ hm).2 rfl)
 have hst:Upto [bn] w5 (w5.setCell ⟨bn,5,none⟩ (.slice b5 (vn+1) c5)):=(Upto.refl [bn] w5).setCell (p:=⟨bn,5,none⟩) (Or.inl (by simp)) _
 have hs9:=HI.up.size
 have hs10:=hu.size
 have hW:=HUP.size
 have hbw:=kAk hbk
 refine⟨hb5,⟨?_,?_,b5,vn+1,c5,addC c vn v0 v1 v2 v3 v4 v5,?_,?_⟩⟩
 ·exact ((HI.up.trans_ext hu).trans hu5 (fun k hk=>Or.inr (hown k hk).1)).setCell (p:=⟨bn,5,none⟩) (Or.inl (by simp)) _
 ·exact ((HI.old.trans_ext hu).trans hu5 (fun k hk=>Or.inr (by have:=(hown k hk).1;omega))).setCell (p:=⟨bn,5,none⟩) (Or.inr (by simp;omega)) _
 ·have:=kCw hb5 5 (.slice b5 (vn+1) c5)
  simpa using this
 ·have happ:=OfRow.app (m:=x) (v0:=v0) (v1:=v1) (v2:=v2) (v3:=v3) (v4:=v4) (v5:=v5) (b':=b5) (c':=c5) (w5:=w5) (hrow.upto hu (by simp)) (by omega) (by omega)
   (hn.mono (fun b hb _=>⟨by unfold New at hb ⊢;omega,by unfold New at hb;omega,fun e=>by have:=hold b e;unfold New at hb;omega⟩)) (by rw [hjl];exact ho5) hu5 (by rw [hjl];exact hw5)
  rw [hjl] at happ
  rw [htk]
  exact happ.upto hst (fun k hk=>Or.inr (by simpa using hk))
theorem of_end {w w9 wr W:World} {bn:Nat} {op so nn mm:Int} {na:Option Addr} {nc:Nat} {ns:List Value} {names:List (List UInt8)} {l:List Nd} {vn:Nat} {va:Option Addr} {vc:Nat} {c:Nat→Nat→Value} {_P:Nat→Prop}
  (HI:OfI w w9 bn op so nn mm na names.length nc ns l vn wr) (HLT:W.heap.size≤bn∧bn<w9.heap.size) (_HWL:w.heap.size<W.heap.size) (HW2:w.heap.size+1<W.heap.size) (HUP:Upto [] W w9)
  (hbn:w9.heap[bn]?=some (.cells #[.int .i64 0,.slice none 0 0,.int .i64 0,.int .i64 0,.int .i64 0,.slice none 0 0] 34 (0,0)))
  (hsl:SlP w9 (New W) (.slice na names.length nc) names.length (names.map sV))
  (_hz2:wr.heap[w.heap.size+1]?=some (.cells #[.int .i64 0,.slice none 0 0,.int .i64 0,.int .i64 0,.int .i64 0,.slice none 0 0] 34 (0,0)))
  (hrow:OfRow w9 wr bn c (.slice va vn vc) (l.take vn)) (htk:l.take vn=l) (_hll:l.length=vn) :
  BkPost w (.mk op names so nn mm l) (.returned (.agg #[.int .i64 op,.slice na names.length nc,.int .i64 so,.int .i64 nn,.int .i64 mm,.slice va vn vc])) ((((((wr.setCell ⟨w.heap.size+1,0,none⟩ (.int .i64 op)).setCell ⟨w.heap.size+1,1,none⟩ (.slice na names.length nc)).setCell ⟨w.heap.size+1,2,none⟩ (.int .i64 so)).setCell ⟨w.heap.size+1,3,none⟩ (.int .i64 nn)).setCell ⟨w.heap.size+1,4,none⟩ (.int .i64 mm)).setCell ⟨w.heap.size+1,5,none⟩ (.slice va vn vc)):=by
 have hst:=nd_self wr (w.heap.size+1) (.int .i64 op) (.slice na names.length nc) (.int .i64 so) (.int .i64 nn) (.int .i64 mm) (.slice va vn vc)
 have hW:=HUP.size
 have hrow2:=hrow.upto hst (fun k hk=>Or.inl (by simp at hk;omega))
 rw [htk] at hrow2
 have hs2:=((names_ne hsl rfl hbn).upto HI.up (fun b hb _=>by simpa using hb.2)).upto hst (fun b hb _=>by have:=hb.1;unfold New at this;simp;omega)
 refine⟨_,rfl,?_,nd_up HI.old (Or.inr (by omega)) ..⟩
 unfold NdV
 refine⟨_,_,rfl,hs2.mono (fun b hb _=>by have:=hb.1;unfold New at this ⊢;omega),?_⟩
 have:=hrow2.list (Q:=New w) (fun b hb=>by have:=hb.1;unfold New at this ⊢;omega) (fun g hg=>by have:=(hrow.own g hg).1;unfold New;omega)
 exact this
theorem of_calls:∀(k:Nat) (nd:Nd),kCz nd≤k→k≤10000000→bigN nd→∀(P:Nat→Prop) (v:Value) (w:World),NdV w P nd v→Calls Tryz.prog 46 #[v] w (BkPost w nd)
 | 0,nd,hk,_,_,_,_,_,_=>by have:=kJx nd;omega
 | k+1,.mk op names so nn mm l,hk,hk7,hbg,P,v,w,h=>by
  obtain⟨a1,c1,a2,c2,rfl,hs,hls⟩:=h.open
  unfold bigN at hbg
  have hsz:kBk l≤k:=by simp only [kCz] at hk;omega
  have hln:=kXj l
  have hu2:Upto [] w ((w.alloc (.cells #[.int .i64 op,.slice a1 names.length c1,.int .i64 so,.int .i64 nn,.int .i64 mm,.slice a2 l.length c2] 25)).alloc (.cells #[.int .i64 0,.slice none 0 0,.int .i64 0,.int .i64 0,.int .i64 0,.slice none 0 0] 34)):=((Upto.refl [] w).alloc _).alloc _
  have hb1:=kCx (kAq w (.cells #[.int .i64 op,.slice a1 names.length c1,.int .i64 so,.int .i64 nn,.int .i64 mm,.slice a2 l.length c2] 25)) (.cells #[.int .i64 0,.slice none 0 0,.int .i64 0,.int .i64 0,.int .i64 0,.slice none 0 0] 34)
  have hb2:=kFz w (.cells #[.int .i64 op,.slice a1 names.length c1,.int .i64 so,.int .i64 nn,.int .i64 mm,.slice a2 l.length c2] 25) (.cells #[.int .i64 0,.slice none 0 0,.int .i64 0,.int .i64 0,.int .i64 0,.slice none 0 0] 34)
  obtain⟨W,hW⟩:∃W,W=((w.alloc (.cells #[.int .i64 op,.slice a1 names.length c1,.int .i64 so,.int .i64 nn,.int .i64 mm,.slice a2 l.length c2] 25)).alloc (.cells #[.int .i64 0,.slice none 0 0,.int .i64 0,.int .i64 0,.int .i64 0,.slice none 0 0] 34)):=⟨_,rfl⟩
  rw [←hW] at hu2 hb1 hb2
  have HU2:=Lib.hid hu2
  have HB1:=Lib.hid hb1
  have HB2:=Lib.hid hb2
  have hns:SlP W P (.slice a1 names.length c1) (names.map sV).length (names.map sV):=by rw [List.length_map];exact hs.ext hu2
  have HNS:=Lib.hid hns.slc
  have HNL:=Lib.hid hbg.1
  obtain⟨i0,hi0,hz0,hz1,hz2⟩:=info9'
  obtain⟨x0,x1,x2,x3,x4,x5⟩:=kAx hb1
  have hwl:w.heap.size<W.heap.size:=kAk hb1
  have hwr:=Upto.refl [] W
  clear hs h hu2 hb1 hb2 hns
  go_enter Tryz.func46,Tryz.ntmps46
  go_wp2_with fail
  simp only [←hW]
  clear hW
  have e0:∀u:Ext W,u.w.cell? ⟨w.heap.size,0,none⟩=some _:=fun u=>u.cell x0
  have e1:∀u:Ext W,u.w.cell? ⟨w.heap.size,1,none⟩=some _:=fun u=>u.cell x1
  have e2:∀u:Ext W,u.w.cell? ⟨w.heap.size,2,none⟩=some _:=fun u=>u.cell x2
  have e3:∀u:Ext W,u.w.cell? ⟨w.heap.size,3,none⟩=some _:=fun u=>u.cell x3
  have e4:∀u:Ext W,u.w.cell? ⟨w.heap.size,4,none⟩=some _:=fun u=>u.cell x4
  refine kFk [2,5] [13] [0,1,2,3,4,5,6,7,8,9,10,11,12,13] [14] 14 (by kernel_rfl) (by kernel_rfl) (by kernel_rfl) ?_
  iterate 2 (refine kCq rfl rfl rfl rfl rfl ?_;intro K' hK';go_big_quiet_op;go_big_quiet_on)
  refine kYw (Y:=Nat) (fun b=>.slice (some ⟨b,0,none⟩) 0 0) (fun _ _=>True) (fun _=>[]) rfl rfl rfl rfl (fun _ _ _ h _=>h) (fun _=>List.nodup_nil) (fun w' post hu hd hp=>(congrArg (kNj Tryz.prog post) (show _=Result.ok (Next.value (.slice (some ⟨w'.heap.size,0,none⟩) 0 0)) (w'.alloc (.cells #[] 9)) from by go_simp)).mpr (hp w'.heap.size _ ((Upto.refl [] w').alloc _) trivial (fun b hb=>by cases hb))) ?_
  intro be
  simp only [Act.put,List.setIfInBounds_toArray,List.set_cons_zero,List.set_cons_succ]
  iterate 2 (refine kCq rfl rfl rfl rfl rfl ?_;intro K' hK';go_big_quiet_op;go_big_quiet_on)
  refine kYw (Y:=Option Addr×Nat) (fun y=>.slice y.1 names.length y.2) (fun y u=>SlP u (New W) (.slice y.1 names.length y.2) names.length (names.map sV)) (fun _=>[]) rfl rfl rfl rfl (fun _ _ _ h hu=>h.ext hu) (fun _=>List.nodup_nil) (fun w' post hu hd hp=>opq_apps w' (.tmp 7) (.tmp 9) 22 rfl 9 i0 (.string ⟨#[]⟩) 16 Tryz.underlying22 hi0 hz0 hz1 hz2 rfl be rfl (.slice a1 names.length c1) (names.map sV) names.length (by simp) rfl (HNS.out.ext hu) (by have:=HNL.out;unfold maxLen;omega) (by have:=HNL.out;omega) (fun b' c' w2 hu2 hsl=>hp (b',c') w2 hu2 (hsl.mono (fun b hb _=>New.mono hu b hb)) (fun b hb=>by cases hb))) ?_
  rintro⟨na,nc⟩
  simp only [Act.put,List.setIfInBounds_toArray,List.set_cons_zero,List.set_cons_succ]
  iterate 7 (refine kCq rfl rfl rfl rfl rfl ?_;intro K' hK';go_big_quiet_op;go_big_quiet_on)
  refine seg_alloc (.cells #[.int .i64 0,.slice none 0 0,.int .i64 0,.int .i64 0,.int .i64 0,.slice none 0 0] 34) rfl rfl rfl (fun w=>by go_simp) ?_
  intro bn
  simp only [Act.put,List.setIfInBounds_toArray,List.set_cons_zero,List.set_cons_succ]
  intro w9 hg
  have hup:=hg.up
  have hnb:=hg.hold.1
  have hsl:=hg.hold.2.1
  have hin:=hg.inb
  simp only [List.drop_succ_cons,List.drop_zero]
  have hbn:W.heap.size≤bn∧bn<w9.heap.size:=hin _ (List.Mem.head _) bn (List.Mem.head _)
  have HSL:=Lib.hid hsl
  have HUP:=Lib.hid hup
  have HBN:=Lib.hid hnb
  have HLT:=Lib.hid hbn
  have HWL:=Lib.hid hwl
  have hw2:w.heap.size+1<W.heap.size:=kAk HB2.out
  have HW2:=Lib.hid hw2
  obtain⟨n0,n1,n2,n3,n4,n5⟩:=kAx hnb
  obtain⟨f0,f1,f2,f3,f4,f5⟩:=kDk hnb
  have hset:=kCw (kCw (kCw (kCw (kCw (kCw hnb 0 (.int .i64 op)) 1 (.slice na names.length nc)) 2 (.int .i64 so)) 3 (.int .i64 nn)) 4 (.int .i64 mm)) 5 (.slice none 0 0)
  simp only [List.setIfInBounds_toArray,List.set_cons_zero,List.set_cons_succ] at hset
  have hsu:Upto [bn] w9 ((((((w9.setCell ⟨bn,0,none⟩ (.int .i64 op)).setCell ⟨bn,1,none⟩ (.slice na names.length nc)).setCell ⟨bn,2,none⟩ (.int .i64 so)).setCell ⟨bn,3,none⟩ (.int .i64 nn)).setCell ⟨bn,4,none⟩ (.int .i64 mm)).setCell ⟨bn,5,none⟩ (.slice none 0 0)):=nd_self ..
  have HI0:Hid (OfI w w9 bn op so nn mm na names.length nc (names.map sV) l 0 ((((((w9.setCell ⟨bn,0,none⟩ (.int .i64 op)).setCell ⟨bn,1,none⟩ (.slice na names.length nc)).setCell ⟨bn,2,none⟩ (.int .i64 so)).setCell ⟨bn,3,none⟩ (.int .i64 nn)).setCell ⟨bn,4,none⟩ (.int .i64 mm)).setCell ⟨bn,5,none⟩ (.slice none 0 0))):=Lib.hid
   ⟨hsu,(HU2.out.trans_ext hup).trans hsu (fun k hk=>Or.inr (by simp at hk;omega)),none,0,0,fun _ _=>undef,hset,⟨by simpa [cellsN] using World.ownsRow_nil _ 0 34 6,by simp,by intro g hg;cases hg⟩⟩
  clear hg hup hnb hsl hin hset hsu e0 e1 e2 e3 e4
  go_wp2_with fail
  have HLS:=Lib.hid hls
  have HLN:Hid (l.length≤10000000):=Lib.hid (by omega)
  generalize hll:l.length=ll at *
  have HLL:=Lib.hid hll
  have hL0:(0:Int)≤ll:=by omega
  have hL1:(ll:Int)≤10000000:=by have:=HLN.out;omega
  clear hls hll
  go_loopw [4] (fun v wr=>∃j:Nat,j≤ll∧v=.int .i64 j∧Hid (OfI w w9 bn op so nn mm na names.length nc (names.map sV) l j wr)) (fun v _=>ll-(intOf v).toNat)
  case atStart=>exact⟨0,by omega,rfl,HI0⟩
  case round =>
   obtain⟨j,hj,rfl,HI⟩:=hrel
   obtain⟨va,vn,vc,c,hbk,hrow⟩:=HI.out.st
   have hbox:=HI.out.up.at (HUP.out.at HB1.out (by simp)) (by have:=HLT.out;have:=HWL.out;simp;omega)
   have z5:=kAz hbox 5
   have y5:=kAz hbk 5
   have g5:=kDx hbk 5
   simp only [List.getElem?_toArray,List.getElem?_cons_zero,List.getElem?_cons_succ] at z5 y5
   obtain⟨va',vc',hve,-⟩:=kJj hrow.row
   simp only [Value.slice.injEq] at hve
   have hvn:vn=j:=by have:=HLL.out;rw [hve.2.1,List.length_take];omega
   clear hve
   subst hvn
   rcases Nat.lt_or_ge vn ll with hlt | hge
   ·obtain⟨x,hx⟩:∃x,l[vn]?=some x:=⟨_,List.getElem?_eq_getElem (by have:=HLL.out;omega)⟩
    obtain⟨g,o,xo,xn1,xn2,xn3,xs,xm,xq,xl1,xl2,xl3,rfl,c0,c1',c2',c3,c4,c5,hn⟩:=(HLS.out.ext HI.out.old) vn x hx
    have hjl:(l.take vn).length=vn:=by have:=HLL.out;rw [List.length_take];omega
    have HJL:=Lib.hid hjl
    have HTK:Hid (l.take (vn+1)=l.take vn++[x]):=Lib.hid (by
     obtain⟨hi,rfl⟩:=List.getElem?_eq_some_iff.1 hx
     exact List.take_succ_eq_append_getElem hi)
    have HROW:=Lib.hid hrow
    have HBK:=Lib.hid hbk
    have hxs:=kSx (List.mem_of_getElem? hx)
    have HC:=Lib.hid (fun w1 (hu:Upto [] wr w1)=>of_calls k x (by omega) (by omega) (bigs_mem hbg.2 (List.mem_of_getElem? hx)) P _ w1 (hn.ext hu))
    have hltI:(vn:Int)<ll:=by omega
    have hj0:(0:Int)≤vn:=by omega
    clear hrow hbk hbox hn hx
    go_wp2_with fail
    have e0:∀u:Ext wr,u.w.cell? ⟨bn,5,none⟩=some (.slice va vn vc):=fun u=>u.cell y5
    have e1:∀u:Ext wr,u.w.cell? ⟨w.heap.size,5,none⟩=some _:=fun u=>u.cell z5
    have k0:∀u:Ext wr,u.w.cell? ⟨g,o+vn*6,none⟩=some _:=fun u=>u.cell c0
    have k1:∀u:Ext wr,u.w.cell? ⟨g,o+vn*6+1,none⟩=some _:=fun u=>u.cell c1'
    have k2:∀u:Ext wr,u.w.cell? ⟨g,o+vn*6+2,none⟩=some _:=fun u=>u.cell c2'
    have k3:∀u:Ext wr,u.w.cell? ⟨g,o+vn*6+3,none⟩=some _:=fun u=>u.cell c3
    have k4:∀u:Ext wr,u.w.cell? ⟨g,o+vn*6+4,none⟩=some _:=fun u=>u.cell c4
    have k5:∀u:Ext wr,u.w.cell? ⟨g,o+vn*6+5,none⟩=some _:=fun u=>u.cell c5
    clear y5 z5 g5 c0 c1' c2' c3 c4 c5
    refine kFk [7,8] [] [0,1,2,3,4,5,6,7,8] [9,10,11] 9 (by kernel_rfl) (by kernel_rfl) (by kernel_rfl) ?_
    iterate 7 (refine kCq rfl rfl rfl rfl rfl ?_;intro K' hK';go_big_quiet_op;go_big_quiet_on)
    refine seg_callO (Y:=(Int×Option Addr×Nat×Nat)×Int×Int×Int×Option Addr×Nat×Nat) (fun y=>.agg #[.int .i64 y.1.1,.slice y.1.2.1 y.1.2.2.1 y.1.2.2.2,.int .i64 y.2.1,.int .i64 y.2.2.1,.int .i64 y.2.2.2.1,.slice y.2.2.2.2.1 y.2.2.2.2.2.1 y.2.2.2.2.2.2]) (fun y u=>NdV u (New wr) x (.agg #[.int .i64 y.1.1,.slice y.1.2.1 y.1.2.2.1 y.1.2.2.2,.int .i64 y.2.1,.int .i64 y.2.2.1,.int .i64 y.2.2.2.1,.slice y.2.2.2.2.1 y.2.2.2.2.2.1 y.2.2.2.2.2.2])) (fun _=>[]) rfl rfl rfl rfl (fun _ _ _ h hu=>h.ext hu) (fun _=>List.nodup_nil) (fun w=>by go_simp) (fun w' hu hd=>(HC.out w' hu).mono fun e w2 ⟨v,h1,h2,h3⟩=>by
     obtain⟨ro,rn1,rn2,rn3,rs,rm,rq,rl1,rl2,rl3,rfl⟩:=h2.six
     exact⟨((ro,rn1,rn2,rn3),rs,rm,rq,rl1,rl2,rl3),h1,h3,h2.mono (fun b hb _=>New.mono hu b hb),fun b hb=>by cases hb⟩) ?_
    rintro⟨⟨ro,rn1,rn2,rn3⟩,rs,rm,rq,rl1,rl2,rl3⟩
    simp only [Act.put,List.setIfInBounds_toArray,List.set_cons_zero,List.set_cons_succ]
    refine kYw (Y:=Nat) (fun b=>.slice (some ⟨b,0,none⟩) 1 1) (fun b u=>u.heap[b]?=some (.cells #[.int .i64 ro,.slice rn1 rn2 rn3,.int .i64 rs,.int .i64 rm,.int .i64 rq,.slice rl1 rl2 rl3] 34 (0,0))) (fun _=>[]) rfl rfl rfl rfl (fun _ _ _ h hu=>hu.at h (by simp)) (fun _=>List.nodup_nil) (fun w' post hu hd hp=>(congrArg (kNj Tryz.prog post) (show _=Result.ok (Next.value (.slice (some ⟨w'.heap.size,0,none⟩) 1 1)) (w'.alloc (.cells #[.int .i64 ro,.slice rn1 rn2 rn3,.int .i64 rs,.int .i64 rm,.int .i64 rq,.slice rl1 rl2 rl3] 34)) from by go_simp)).mpr (hp w'.heap.size _ ((Upto.refl [] w').alloc _) (kAq _ _) (fun b hb=>by cases hb))) ?_
    intro b8
    simp only [Act.put,List.setIfInBounds_toArray,List.set_cons_zero,List.set_cons_succ]
    intro w10 hg
    have HU10:=Lib.hid hg.up
    have HB8:Hid (w10.heap[b8]?=some (.cells #[.int .i64 ro,.slice rn1 rn2 rn3,.int .i64 rs,.int .i64 rm,.int .i64 rq,.slice rl1 rl2 rl3] 34 (0,0))):=Lib.hid hg.hold.1
    have HND:Hid (NdV w10 (New wr) x (.agg #[.int .i64 ro,.slice rn1 rn2 rn3,.int .i64 rs,.int .i64 rm,.int .i64 rq,.slice rl1 rl2 rl3])):=Lib.hid hg.hold.2.1
    simp only [List.drop_succ_cons,List.drop_zero]
    clear hg e0 e1 k0 k1 k2 k3 k4 k5
    have HR10:=Lib.hid (HROW.out.upto HU10.out (by simp))
    have hr10:=HR10.out.row
    rw [hjl] at hr10
    have HRR:=Lib.hid hr10
    obtain⟨i1,hi1,hy0,hy1,hy2⟩:=infoO4'
    have hL7:=HLN.out
    have HA:=Lib.hid (fun b5 c5 w5 (ho5:w5.ownsRow 0 34 6 (.slice b5 (vn+1) c5) (vn+1) (cellsN c vn++[.int .i64 ro,.slice rn1 rn2 rn3,.int .i64 rs,.int .i64 rm,.int .i64 rq,.slice rl1 rl2 rl3])) (hu5:Upto (Value.slice va vn vc).ownBlock.toList w10 w5) (hw5:∀g,(Value.slice b5 (vn+1) c5).ownBlock=some g→(Value.slice va vn vc).ownBlock=some g∨w10.heap.size≤g)=>of_step HI.out HLT.out HWL.out HUP.out HBK.out HROW.out HU10.out HND.out HJL.out HTK.out ho5 hu5 hw5)
    clear hr10 hjl
    go_wp2_with (at_builtin
                 refine kHk _ rfl (.tmp 26) (.tmp 33) 32 rfl 34 i1 (.agg #[.int .i64 0,.slice none 0 0,.int .i64 0,.int .i64 0,.int .i64 0,.slice none 0 0]) 6 80 Tryz.underlying32 hi1 hy0 hy1 hy2 rfl (by decide) (.slice va vn vc) vn (cellsN c vn) rfl HRR.out ⟨b8,0,none⟩ 1 1 [.int .i64 ro,.slice rn1 rn2 rn3,.int .i64 rs,.int .i64 rm,.int .i64 rq,.slice rl1 rl2 rl3] rfl rfl (six_at HB8.out) (by simp [Value.oneCell']) (by unfold maxLen;omega) (by omega) ?_
                 intro b5 c5 w5 ho5 hu5 hw5
                 obtain⟨hbk5,hI5⟩:=HA.out b5 c5 w5 ho5 hu5 hw5
                 have y5:=kAz hbk5 5
                 have g5:=kDx hbk5 5
                 simp only [List.getElem?_toArray,List.getElem?_cons_zero,List.getElem?_cons_succ] at y5
                 have HI5:=Lib.hid hI5
                 clear ho5 hu5 hw5 hbk5 hI5)
    go_roundw
    case rel=>exact⟨vn+1,by omega,by go_num,HI5⟩
    case measure=>simp [intOf];omega
   ·obtain rfl:vn=ll:=by omega
    have hgeI:¬((vn:Int)<vn):=by omega
    have HROW:=Lib.hid hrow
    have HBK:=Lib.hid hbk
    have hz2:=HI.out.up.at (HUP.out.at HB2.out (by simp)) (by have h1:=HLT.out;have h2:=HW2.out;simp;omega)
    have HZ2:=Lib.hid hz2
    obtain⟨p0,p1,p2,p3,p4,p5⟩:=kAx hbk
    obtain⟨r0,r1,r2,r3,r4,r5⟩:=kAx hz2
    obtain⟨t0,t1,t2,t3,t4,t5⟩:=kDk hz2
    have hF:=of_end (names:=names) (_P:=P) HI.out HLT.out HWL.out HW2.out HUP.out HBN.out HSL.out HZ2.out HROW.out (List.take_of_length_le (by have:=HLL.out;omega)) HLL.out
    have HF:=Lib.hid hF
    clear hrow hbk hz2 hbox hF
    go_wp2_with fail
    have hst:=kEz HZ2.out (.int .i64 op) (.slice na names.length nc) (.int .i64 so) (.int .i64 nn) (.int .i64 mm) (.slice va vn vc)
    obtain⟨q0,q1,q2,q3,q4,q5⟩:=kAx hst
    exact bodyPost_ret (v:=.agg #[.int .i64 op,.slice na names.length nc,.int .i64 so,.int .i64 nn,.int .i64 mm,.slice va vn vc]) (by simp [results,go_sem,q0,q1,q2,q3,q4,q5]) rfl HF.out
theorem infoV (T:TypeId) (h:(Tryz.prog.info? T).map (fun i=>(i.zero,i.size,i.bytes))=some (some (.agg #[.string ⟨#[]⟩,.int .i64 0]),2,24)):∃i,Tryz.prog.info? T=some i∧i.zero=some (.agg #[.string ⟨#[]⟩,.int .i64 0])∧i.size=2∧i.bytes=24:=by
 cases hi:Tryz.prog.info? T with
 | none=>rw [hi] at h;cases h
 | some i =>
  rw [hi] at h
  simp only [Option.map_some,Option.some.injEq,Prod.mk.injEq] at h
  exact⟨i,rfl,h.1,h.2.1,h.2.2⟩
theorem infoV86:∃i,Tryz.prog.info? 86=some i∧i.zero=some (.agg #[.string ⟨#[]⟩,.int .i64 0])∧i.size=2∧i.bytes=24:=infoV 86 (by kernel_rfl)
def QuPost (w:World) (q:Qn) (e:Ending) (w':World):Prop:=∃v,e=.returned v∧QnV w' (New w) q v∧Upto [] w w'
structure QbI (w4:World) (bn:Nat) (x1 x2 x3 x4 x5 x6:Value) (T EL:TypeId) (f:List (List UInt8×Int)) (j:Nat) (wr:World):Prop where
 up:Upto [bn] w4 wr
 st:∃(va:Option Addr) (vn vc:Nat),wr.heap[bn]?=some (.cells #[.slice va vn vc,x1,x2,x3,x4,x5,x6] T (0,0))∧wr.ownsRow 0 EL 2 (.slice va vn vc) j ((f.take j).flatMap varC)∧∀g,(Value.slice va vn vc).ownBlock=some g→w4.heap.size≤g
theorem qb_step {w4 wr w10 w5:World} {bn:Nat} {x1 x2 x3 x4 x5 x6:Value} {T EL:TypeId} {f:List (List UInt8×Int)} {j:Nat} {va:Option Addr} {vn vc:Nat} {x:List UInt8×Int} {b5:Option Addr} {c5:Nat}
  (HU:Upto [bn] w4 wr) (hlt:bn<w4.heap.size) (hbk:wr.heap[bn]?=some (.cells #[.slice va vn vc,x1,x2,x3,x4,x5,x6] T (0,0))) (hown:∀g,(Value.slice va vn vc).ownBlock=some g→w4.heap.size≤g)
  (hu:Upto [] wr w10) (htk:f.take (j+1)=f.take j++[x]) (ho5:w5.ownsRow 0 EL 2 (.slice b5 (j+1) c5) (j+1) ((f.take j).flatMap varC++[.string ⟨x.1.toArray⟩,.int .i64 x.2])) (hu5:Upto (Value.slice va vn vc).ownBlock.toList w10 w5)
  (hw5:∀g,(Value.slice b5 (j+1) c5).ownBlock=some g→(Value.slice va vn vc).ownBlock=some g∨w10.heap.size≤g) :
  w5.heap[bn]?=some (.cells #[.slice va vn vc,x1,x2,x3,x4,x5,x6] T (0,0))∧QbI w4 bn x1 x2 x3 x4 x5 x6 T EL f (j+1) (w5.setCell ⟨bn,0,none⟩ (.slice b5 (j+1) c5)):=by
 have hb5:=hu5.at (hu.at hbk (by simp)) (fun hm=>by have:=hown _ (Option.mem_toList.1 hm);omega)
 have hst:Upto [bn] w5 (w5.setCell ⟨bn,0,none⟩ (.slice b5 (j+1) c5)):=(Upto.refl [bn] w5).setCell (p:=⟨bn,0,none⟩) (Or.inl (by simp)) _
 have h1:=HU.size
 have h2:=hu.size
 have hnew:∀g,(Value.slice b5 (j+1) c5).ownBlock=some g→w4.heap.size≤g:=fun g hg=>by
  rcases hw5 g hg with h | h
  ·exact hown g h
  ·omega
 refine⟨hb5,?_,b5,j+1,c5,?_,?_,hnew⟩
 ·exact ((HU.trans_ext hu).trans hu5 (fun k hk=>Or.inr (hown k (Option.mem_toList.1 hk)))).setCell (p:=⟨bn,0,none⟩) (Or.inl (by simp)) _
 ·simpa using kCw hb5 0 (.slice b5 (j+1) c5)
 ·rw [htk,List.flatMap_append]
  exact kIx ho5 hst (fun g hg=>by have:=hnew g hg;simp;omega)
theorem set7_up {S:List Nat} {a w:World} {R:Nat} (h:Upto S a w) (hR:R∈S∨a.heap.size≤R) (v0 v1 v2 v3 v4 v5 v6:Value):Upto S a (((((((w.setCell ⟨R,0,none⟩ v0).setCell ⟨R,1,none⟩ v1).setCell ⟨R,2,none⟩ v2).setCell ⟨R,3,none⟩ v3).setCell ⟨R,4,none⟩ v4).setCell ⟨R,5,none⟩ v5).setCell ⟨R,6,none⟩ v6) :=
 ((((((h.setCell (p:=⟨R,0,none⟩) hR v0).setCell (p:=⟨R,1,none⟩) hR v1).setCell (p:=⟨R,2,none⟩) hR v2).setCell (p:=⟨R,3,none⟩) hR v3).setCell (p:=⟨R,4,none⟩) hR v4).setCell (p:=⟨R,5,none⟩) hR v5).setCell (p:=⟨R,6,none⟩) hR v6
theorem set7_at {w:World} {R:Nat} {a0 a1 a2 a3 a4 a5 a6:Value} {T:TypeId} {z:Nat×Nat} (h:w.heap[R]?=some (.cells #[a0,a1,a2,a3,a4,a5,a6] T z)) (v0 v1 v2 v3 v4 v5 v6:Value):(((((((w.setCell ⟨R,0,none⟩ v0).setCell ⟨R,1,none⟩ v1).setCell ⟨R,2,none⟩ v2).setCell ⟨R,3,none⟩ v3).setCell ⟨R,4,none⟩ v4).setCell ⟨R,5,none⟩ v5).setCell ⟨R,6,none⟩ v6).heap[R]?=some (.cells #[v0,v1,v2,v3,v4,v5,v6] T z):=by
 have:=kCw (kCw (kCw (kCw (kCw (kCw (kCw h 0 v0) 1 v1) 2 v2) 3 v3) 4 v4) 5 v5) 6 v6
 simpa using this
theorem qb_end {w W2 w3 w4 wr:World} {bn R:Nat} {x1 x2 x3 x4 x5 x6:Value} {EL:TypeId} {q:Qn} {va:Option Addr} {vn vc:Nat} (hW:Upto [] w W2) (hR:w.heap.size≤R∧R<W2.heap.size) (h3:Upto [] W2 w3) (hb:bn=w3.heap.size) (h4:Upto [] w3 w4) (HU:Upto [bn] w4 wr) (hlt:bn<w4.heap.size)
  (hn:NdV w3 (New W2) q.body (.agg #[x1,x2,x3,x4,x5,x6])) (hrow:wr.ownsRow 0 EL 2 (.slice va vn vc) q.free.length (q.free.flatMap varC)) (hown:∀g,(Value.slice va vn vc).ownBlock=some g→w4.heap.size≤g) :
  QuPost w q (.returned (.agg #[.slice va vn vc,x1,x2,x3,x4,x5,x6])) (((((((wr.setCell ⟨R,0,none⟩ (.slice va vn vc)).setCell ⟨R,1,none⟩ x1).setCell ⟨R,2,none⟩ x2).setCell ⟨R,3,none⟩ x3).setCell ⟨R,4,none⟩ x4).setCell ⟨R,5,none⟩ x5).setCell ⟨R,6,none⟩ x6):=by
 have hst:=set7_up (R:=R) (Upto.refl [R] wr) (Or.inl (by simp)) (.slice va vn vc) x1 x2 x3 x4 x5 x6
 have s1:=hW.size
 have s2:=h3.size
 have s3:=h4.size
 have hold:Upto [] w wr:=((hW.trans_ext h3).trans_ext h4).trans HU (fun k hk=>by simp at hk;subst hk;right;omega)
 refine⟨_,rfl,⟨_,_,_,_,_,_,_,rfl,?_,?_⟩,set7_up hold (Or.inr hR.1) ..⟩
 ·exact SlP.upto (slP_rowN (P:=fun g=>w4.heap.size≤g) hrow hown) hst (fun b hb2 _=>by simp;omega) |>.mono (fun b hb2 _=>by unfold New;omega)
 ·have k1:=hn.mono (Q:=fun b=>W2.heap.size≤b∧b<bn) (fun b hb2 hi=>⟨hb2,by have:=hi.lt;omega⟩)
  have k2:=(k1.ext h4).upto HU (fun b hb2 _=>by have:=hb2.2;simp;omega)
  exact (k2.upto hst (fun b hb2 _=>by have:=hb2.1;simp;omega)).mono (fun b hb2 _=>by have:=hb2.1;unfold New;omega)
theorem ofq_calls (q:Qn) (v:Value) (w:World) (P:Nat→Prop) (h:QnV w P q v) (hk:kCz q.body≤10000000) (hb:bigN q.body) (hl:q.free.length≤10000000):Calls Tryz.prog 25 #[v] w (QuPost w q):=by
 obtain⟨f1,f3,o1,a1,a2,a3,s1,n1,m1,l1,l2,l3,rfl,hv,hn⟩:=h.open
 have hu2:Upto [] w ((w.alloc (.cells #[.slice f1 q.free.length f3,.int .i64 o1,.slice a1 a2 a3,.int .i64 s1,.int .i64 n1,.int .i64 m1,.slice l1 l2 l3] 45)).alloc (.cells #[.slice none 0 0,.int .i64 0,.slice none 0 0,.int .i64 0,.int .i64 0,.int .i64 0,.slice none 0 0] 48)):=((Upto.refl [] w).alloc _).alloc _
 have HU2:=Lib.hid hu2
 have hb1:=kCx (kAq w (.cells #[.slice f1 q.free.length f3,.int .i64 o1,.slice a1 a2 a3,.int .i64 s1,.int .i64 n1,.int .i64 m1,.slice l1 l2 l3] 45)) (.cells #[.slice none 0 0,.int .i64 0,.slice none 0 0,.int .i64 0,.int .i64 0,.int .i64 0,.slice none 0 0] 48)
 have hb2:=kFz w (.cells #[.slice f1 q.free.length f3,.int .i64 o1,.slice a1 a2 a3,.int .i64 s1,.int .i64 n1,.int .i64 m1,.slice l1 l2 l3] 45) (.cells #[.slice none 0 0,.int .i64 0,.slice none 0 0,.int .i64 0,.int .i64 0,.int .i64 0,.slice none 0 0] 48)
 have HB1:=Lib.hid hb1
 have HB2:=Lib.hid hb2
 have HG:=Lib.hid (kWj hv)
 have HC:=Lib.hid (of_calls _ q.body (Nat.le_refl _) hk hb P _ _ (hn.ext hu2))
 obtain⟨xa0,xa1,xa2,xa3,xa4,xa5,xa6⟩:=kBw hb1
 obtain⟨ya0,ya1,ya2,ya3,ya4,ya5,ya6⟩:=kRk hb2
 have hL0:(0:Int)≤q.free.length:=by omega
 have hL1:(q.free.length:Int)≤10000000:=by omega
 clear h hv hn hb hu2 hb1 hb2 hk
 go_enter Tryz.func25,Tryz.ntmps25
 go_wp2_with fail
 refine HC.out.mono ?_
 rintro e w3 ⟨v3,rfl,hn3,hu3⟩
 obtain⟨ro,rn1,rn2,rn3,rs,rm,rq,rl1,rl2,rl3,rfl⟩:=hn3.six
 have HN3:=Lib.hid hn3
 have HU3:=Lib.hid hu3
 have hua:Upto [] w3 (w3.alloc (.cells #[.slice none 0 0,.int .i64 ro,.slice rn1 rn2 rn3,.int .i64 rs,.int .i64 rm,.int .i64 rq,.slice rl1 rl2 rl3] 48)):=(Upto.refl [] w3).alloc _
 have HUA:=Lib.hid hua
 have hbn:=kAq w3 (.cells #[.slice none 0 0,.int .i64 ro,.slice rn1 rn2 rn3,.int .i64 rs,.int .i64 rm,.int .i64 rq,.slice rl1 rl2 rl3] 48)
 have HI0:Hid (QbI (w3.alloc (.cells #[.slice none 0 0,.int .i64 ro,.slice rn1 rn2 rn3,.int .i64 rs,.int .i64 rm,.int .i64 rq,.slice rl1 rl2 rl3] 48)) w3.heap.size (.int .i64 ro) (.slice rn1 rn2 rn3) (.int .i64 rs) (.int .i64 rm) (.int .i64 rq) (.slice rl1 rl2 rl3) 48 86 q.free 0 (w3.alloc (.cells #[.slice none 0 0,.int .i64 ro,.slice rn1 rn2 rn3,.int .i64 rs,.int .i64 rm,.int .i64 rq,.slice rl1 rl2 rl3] 48))):=Lib.hid ⟨Upto.refl _ _,none,0,0,hbn,by simpa using World.ownsRow_nil _ 0 86 2,by intro g hg;cases hg⟩
 have HLT:Hid (w3.heap.size<(w3.alloc (.cells #[.slice none 0 0,.int .i64 ro,.slice rn1 rn2 rn3,.int .i64 rs,.int .i64 rm,.int .i64 rq,.slice rl1 rl2 rl3] 48)).heap.size):=Lib.hid (by simp)
 have HQ4:=Lib.hid (hua.at (hu3.at HB1.out (by simp)) (by simp))
 have HR4:=Lib.hid (hua.at (hu3.at HB2.out (by simp)) (by simp))
 have HWS:Hid (w.heap.size+1<w3.heap.size):=Lib.hid (kAk (hu3.at HB2.out (by simp)))
 have HW4:=Lib.hid ((HU2.out.trans_ext hu3).trans_ext hua)
 clear hn3 hu3 hua hbn
 go_wp2_with fail
 generalize hw4:w3.alloc (.cells #[.slice none 0 0,.int .i64 ro,.slice rn1 rn2 rn3,.int .i64 rs,.int .i64 rm,.int .i64 rq,.slice rl1 rl2 rl3] 48)=w4 at *
 obtain⟨bn,hbn,HBN⟩:∃bn,bn=w3.heap.size∧Hid (bn=w3.heap.size):=⟨_,rfl,Lib.hid rfl⟩
 rw [←hbn] at HI0 HLT ⊢
 clear hw4 hbn
 go_loopw [4] (fun v wr=>∃j:Nat,j≤q.free.length∧v=.int .i64 j∧Hid (QbI w4 bn (.int .i64 ro) (.slice rn1 rn2 rn3) (.int .i64 rs) (.int .i64 rm) (.int .i64 rq) (.slice rl1 rl2 rl3) 48 86 q.free j wr)) (fun v _=>q.free.length-(intOf v).toNat)
 case atStart=>exact⟨0,by omega,rfl,HI0⟩
 case round =>
  obtain⟨j,hj,rfl,HI⟩:=hrel
  have hj0:(0:Int)≤j:=by omega
  obtain⟨va,vn,vc,hbk,hrow,hown⟩:=HI.out.st
  obtain⟨va',vc',hve,-⟩:=kJj hrow
  simp only [Value.slice.injEq] at hve
  obtain rfl:vn=j:=hve.2.1
  clear hve
  have hq:=HI.out.up.at HQ4.out (by have h1:=HBN.out;have h2:=HWS.out;simp;omega)
  have HWR:Hid (Upto [] w wr):=Lib.hid (HW4.out.trans HI.out.up (fun k hk=>by have h1:=HBN.out;have h2:=HWS.out;simp at hk;subst hk;right;omega))
  have z0:=kAz hq 0
  have y0:=kAz hbk 0
  have g0:=kDx hbk 0
  simp only [List.getElem?_toArray,List.getElem?_cons_zero] at z0 y0
  rcases Nat.lt_or_ge vn q.free.length with hlt | hge
  ·have hltI:(vn:Int)<q.free.length:=by omega
   obtain⟨x,hx⟩:∃x,q.free[vn]?=some x:=⟨_,List.getElem?_eq_getElem hlt⟩
   have HTK:Hid (q.free.take (vn+1)=q.free.take vn++[x]):=Lib.hid (by rw [List.take_add_one,hx];rfl)
   obtain⟨g,o,rfl,c0,c1⟩:=HG.out vn x hx
   obtain⟨x1,x2⟩:=x
   simp only at c0 c1
   replace c0:=kAw HWR.out c0
   replace c1:=kAw HWR.out c1
   have HROW:=Lib.hid hrow
   have HBK:=Lib.hid hbk
   have HOWN:=Lib.hid hown
   clear hrow hbk hown hq hx
   go_wp2_with fail
   have e0:∀u:Ext wr,u.w.cell? ⟨bn,0,none⟩=some (.slice va vn vc):=fun u=>u.cell y0
   have e1:∀u:Ext wr,u.w.cell? ⟨w.heap.size,0,none⟩=some _:=fun u=>u.cell z0
   have k0:∀u:Ext wr,u.w.cell? ⟨g,o+vn*2,none⟩=some _:=fun u=>u.cell c0
   have k1:∀u:Ext wr,u.w.cell? ⟨g,o+vn*2+1,none⟩=some _:=fun u=>u.cell c1
   clear z0 y0 g0 c0 c1
   refine kFk [15] [] [0,1,2,3,4,5,6,7,8,9,10,11,12,13,14,15] [16,17,18] 16 (by kernel_rfl) (by kernel_rfl) (by kernel_rfl) ?_
   iterate 15 (refine kCq rfl rfl rfl rfl rfl ?_;intro K' hK';go_big_quiet_op;go_big_quiet_on)
   refine kYw (Y:=Nat) (fun b=>.slice (some ⟨b,0,none⟩) 1 1) (fun b u=>u.heap[b]?=some (.cells #[.string ⟨x1.toArray⟩,.int .i64 x2] 86 (0,0))) (fun _=>[]) rfl rfl rfl rfl (fun _ _ _ h hu=>hu.at h (by simp)) (fun _=>List.nodup_nil) (fun w' post hu hd hp=>(congrArg (kNj Tryz.prog post) (show _=Result.ok (Next.value (.slice (some ⟨w'.heap.size,0,none⟩) 1 1)) (w'.alloc (.cells #[.string ⟨x1.toArray⟩,.int .i64 x2] 86)) from by go_simp)).mpr (hp w'.heap.size _ ((Upto.refl [] w').alloc _) (kAq _ _) (fun b hb=>by cases hb))) ?_
   intro b8
   simp only [Act.put,List.setIfInBounds_toArray,List.set_cons_zero,List.set_cons_succ]
   intro w10 hg
   have HU10:=Lib.hid hg.up
   have HB8:Hid (w10.heap[b8]?=some (.cells #[.string ⟨x1.toArray⟩,.int .i64 x2] 86 (0,0))):=Lib.hid hg.hold.1
   simp only [List.drop_succ_cons,List.drop_zero]
   clear hg e0 e1 k0 k1
   have HRR:=Lib.hid (kIx HROW.out HU10.out (by simp))
   obtain⟨i1,hi1,hy0,hy1,hy2⟩:=infoV86
   have HA:=Lib.hid (fun b5 c5 w5 (ho5:w5.ownsRow 0 86 2 (.slice b5 (vn+1) c5) (vn+1) ((q.free.take vn).flatMap varC++[.string ⟨x1.toArray⟩,.int .i64 x2])) (hu5:Upto (Value.slice va vn vc).ownBlock.toList w10 w5) (hw5:∀g,(Value.slice b5 (vn+1) c5).ownBlock=some g→(Value.slice va vn vc).ownBlock=some g∨w10.heap.size≤g)=>qb_step (x:=(x1,x2)) HI.out.up HLT.out HBK.out HOWN.out HU10.out HTK.out ho5 hu5 hw5)
   go_wp2_with (at_builtin
                refine kHk _ rfl (.tmp 17) (.tmp 31) 46 rfl 86 i1 (.agg #[.string ⟨#[]⟩,.int .i64 0]) 2 24 Tryz.underlying46 hi1 hy0 hy1 hy2 rfl (by decide) (.slice va vn vc) vn ((q.free.take vn).flatMap varC) rfl HRR.out ⟨b8,0,none⟩ 1 1 [.string ⟨x1.toArray⟩,.int .i64 x2] rfl rfl (two_at HB8.out) (by simp [Value.oneCell']) (by unfold maxLen;omega) (by omega) ?_
                intro b5 c5 w5 ho5 hu5 hw5
                obtain⟨hbk5,hI5⟩:=HA.out b5 c5 w5 ho5 hu5 hw5
                have y5:=kAz hbk5 0
                have g5:=kDx hbk5 0
                simp only [List.getElem?_toArray,List.getElem?_cons_zero] at y5
                have HI5:=Lib.hid hI5
                clear ho5 hu5 hw5 hbk5 hI5)
   go_roundw
   case rel=>exact⟨vn+1,by omega,by go_num,HI5⟩
   case measure=>simp [intOf];omega
  ·have hgeI:¬(vn:Int)<q.free.length:=by omega
   have HROW:=Lib.hid hrow
   have HOWN:=Lib.hid hown
   have hr:=HI.out.up.at HR4.out (by have h1:=HBN.out;have h2:=HWS.out;simp;omega)
   obtain⟨pa0,pa1,pa2,pa3,pa4,pa5,pa6⟩:=kBw hbk
   obtain⟨pf0,pf1,pf2,pf3,pf4,pf5,pf6⟩:=kRk hbk
   obtain⟨ra0,ra1,ra2,ra3,ra4,ra5,ra6⟩:=kBw hr
   obtain⟨rf0,rf1,rf2,rf3,rf4,rf5,rf6⟩:=kRk hr
   have HEND:=Lib.hid (qb_end (q:=q) (R:=w.heap.size+1) HU2.out ⟨by omega,by simp⟩ HU3.out HBN.out HUA.out HI.out.up HLT.out HN3.out (by have:=HROW.out;rw [List.take_of_length_le (by omega)] at this;rwa [show vn=q.free.length by omega] at this ⊢) HOWN.out)
   have HR:=Lib.hid hr
   clear hrow hown hbk hq hr
   go_wp2_with fail
   have hst:=set7_at HR.out (.slice va vn vc) (.int .i64 ro) (.slice rn1 rn2 rn3) (.int .i64 rs) (.int .i64 rm) (.int .i64 rq) (.slice rl1 rl2 rl3)
   obtain⟨q0,q1,q2,q3,q4,q5,q6⟩:=kBw hst
   exact bodyPost_ret (v:=.agg #[.slice va vn vc,.int .i64 ro,.slice rn1 rn2 rn3,.int .i64 rs,.int .i64 rm,.int .i64 rq,.slice rl1 rl2 rl3]) (by simp [results,Tryz.results25,go_sem,q0,q1,q2,q3,q4,q5,q6]) rfl HEND.out
end Go.Proofs.YtkhbpebpljdifaaGreatDoor
