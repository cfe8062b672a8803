/- Merged texts. -/
import Derived.Test.YtkhbpebpljdifaaGreatDoorMPrnD
set_option maxRecDepth 100000
set_option maxHeartbeats 25600000
namespace Go.Proofs.YtkhbpebpljdifaaGreatDoor
open Go.RowKit Go.PL Go.Maps
theorem pnode_calls (nd:Nd) (v:Value) (w:World) (P:Nat→Prop) (h:NdV w P nd v) (hk:kCz nd≤10000000) (hin:inN 10000000 nd) (hE:Env w∧SEnv w∧FEnv w∧PEnv w):Calls Tryz.prog 45 #[v] w fun e w'=>e=.returned (pairV (nodeF nd))∧Upto [] w w':=by
 have HCQ:=Lib.hid (fun u (hu:Upto [] w u)=>checkf_calls nd v u P (h.ext hu) hk hin (hE.1.ext hu) (hE.2.2.1.ext hu))
 have HN:=Lib.hid h
 obtain⟨o1,a1,a2,a3,s1,n1,m1,l1,l2,l3,rfl⟩:=h.six
 have hu1:Upto [] w (w.alloc (.cells #[.int .i64 o1,.slice a1 a2 a3,.int .i64 s1,.int .i64 n1,.int .i64 m1,.slice l1 l2 l3] 34)):=(Upto.refl [] w).alloc _
 have HU1:=Lib.hid hu1
 have hb:=kAq w (.cells #[.int .i64 o1,.slice a1 a2 a3,.int .i64 s1,.int .i64 n1,.int .i64 m1,.slice l1 l2 l3] 34)
 have HB1:=Lib.hid hb
 obtain⟨y0,y1,y2,y3,y4,y5⟩:=kAx hb
 by_cases hR:kSq kBj nd=0
 case neg =>
  obtain⟨R,hR2⟩:∃R,kSq kBj nd=R:=⟨_,rfl⟩
  have HPF:Hid (nodeF nd=([],R)):=Lib.hid (by unfold nodeF;rw [if_neg hR,hR2])
  rw [hR2] at HCQ hR
  have r1:((R:Int)==0)=false:=by rw [beq_eq_false_iff_ne];omega
  have r2:((R:Int) != 0)=true:=by rw [bne,r1];rfl
  clear hR hR2 hE hin hk hu1 hb h
  go_enter Tryz.func45,Tryz.ntmps45
  go_wp2_with fail
  refine (HCQ.out _ HU1.out).mono ?_
  rintro e w2 ⟨rfl,hu2⟩
  have HU2:=Lib.hid (HU1.out.trans_ext hu2)
  clear hu2
  go_wp2_with fail
  go_ret2
  exact⟨by rw [HPF.out];rfl,HU2.out⟩
 case pos =>
  obtain⟨hob,hg⟩:=check_ok (fun x=>kXz) hR
  have HPF:Hid (nodeF nd=cutP (jn (prT true nd))):=Lib.hid (by unfold nodeF;rw [if_pos hR])
  rw [hR] at HCQ
  have HEU:=Lib.hid (fun u (hu:Upto [] w u)=>(⟨hE.2.2.2.ext hu,hE.2.1.upto hu (by simp)⟩:PEnv u∧SEnv u))
  have HOB:=Lib.hid hob
  have HLQ:Hid ((jn (prT true nd)).length≤2000000000):=Lib.hid (by have:=jn_len hob true;omega)
  have HLT:Hid ((prT true nd).length≤2000000000):=Lib.hid (by have h1:=len_wts (prT true nd);have h2:=pr_le hob true;omega)
  clear hR hE hin hk hu1 hb h hob hg
  go_enter Tryz.func45,Tryz.ntmps45
  go_wp2_with fail
  refine (HCQ.out _ HU1.out).mono ?_
  rintro e w2 ⟨rfl,hu2⟩
  have HU2:=Lib.hid (HU1.out.trans_ext hu2)
  have hb2:=hu2.at HB1.out (by simp)
  have K3:=Lib.hid (Kp.new hb2)
  have HW3:=Lib.hid (WrI.new w2)
  have hb3:=K3.out.1
  obtain⟨z0,z1,z2,z3,z4,z5⟩:=kAx hb3
  clear hu2 hb2 hb3
  go_wp2_with fail
  refine (node_calls _ nd (Nat.le_refl _) HOB.out w2 w2.heap.size P _ (fun u hu=>HEU.out u (HU2.out.trans_ext hu)) (patom_calls (fun u hu=>(HEU.out u (HU2.out.trans_ext hu)).1)) (HN.out.ext HU2.out) true _ _ HW3.out (by have h2:=HLT.out;simp only [List.length_nil];omega)).mono ?_
  rintro e w5 ⟨rfl,hw5,hk5⟩
  rw [List.nil_append] at hw5
  have HW5:=Lib.hid hw5
  clear hw5 hk5
  go_wp2_with fail
  refine (text_calls w2 w5 w2.heap.size _ HW5.out (by rw [jn_txs];have h1:=HLQ.out;omega) (by rw [txs_len];have h2:=HLT.out;omega)).mono ?_
  rintro e w6 ⟨rfl,hu6⟩
  rw [jn_txs,←HPF.out]
  obtain⟨r,hr⟩:∃r,nodeF nd=r:=⟨_,rfl⟩
  rw [hr]
  have HRR:=Lib.hid hr
  clear hr
  have HU6:=Lib.hid ((HU2.out.trans_ext HW5.out.up).trans_ext hu6)
  clear hu6
  unfold pairV
  go_wp2_with fail
  go_ret2
  exact⟨by rw [HRR.out];rfl,HU6.out⟩
theorem asked_lim {q:Qn} (h:kVx q=true):kNw q.body≤60∧kCz q.body≤300:=by
 unfold kVx fewF at h
 simp only [Bool.and_eq_true,decide_eq_true_eq] at h
 exact h.1.2.1
theorem right_q {q:Qn} (ha:kVx q=true) (hr:kIj kBj q=0):kYz q:=by
 obtain⟨hv,hb,hg⟩:=right_ok (fun x h=>kXz h) hr
 obtain⟨h1,h2⟩:=asked_lim ha
 have h3:=lv_le _ q.body (Nat.le_refl _) true
 have h4:=quest_len hv hb
 have h5:=jn_len hb true
 exact⟨hv,hb,hg,by omega,by omega,by omega⟩
theorem kYz.print {q:Qn} (h:kYz q) (hr:kIj kBj q=0):kTk q=(jn (prQ q),0):=by
 unfold kTk
 rw [if_pos hr,cutP_short h.len]
theorem parse_to {x:List UInt8} {q:Qn} (hr:kGx kFw x=⟨q,0,0,0⟩) (hl:x.length≤281474976710656) (u:World) (hE:EnvP u):Calls Tryz.prog 39 #[.string ⟨x.toArray⟩] u fun e w'=>∃v,e=.returned (.tuple #[v,.agg #[.int .i64 0,.int .i64 0],.int .i64 0])∧QnV w' (New u) q v∧Upto [] u w' :=
 (parse_calls x hl u hE.1 hE.2.1).mono fun e w' h=>by
  rw [hr] at h
  exact h
theorem parseF_to {x:List UInt8} {n:Nd} (hr:kGx bareP x=⟨⟨[],n⟩,0,0,0⟩) (hl:x.length≤281474976710656) (u:World) (hE:EnvP u):Calls Tryz.prog 22 #[.string ⟨x.toArray⟩] u fun e w'=>∃v,e=.returned (.tuple #[v,.agg #[.int .i64 0,.int .i64 0],.int .i64 0])∧NdV w' (New u) n v∧Upto [] u w' :=
 (parseFormula_calls x hl u hE.1 hE.2.1).mono fun e w' h=>by
  rw [hr] at h
  exact h
theorem print_to {q:Qn} {S:List UInt8} (hS:kTk q=(S,0)) (hr:kIj kBj q=0) {v:Value} {u:World} {P:Nat→Prop} (h:QnV u P q v) (hE:EnvP u):Calls Tryz.prog 43 #[v] u fun e w'=>e=.returned (.tuple #[.string ⟨S.toArray⟩,.int .i64 0])∧Upto [] u w' :=
 (print_right q v u P h hr hE).mono fun e w' h=>by
  rw [hS] at h
  exact h
theorem node_to {q:Qn} {S:List UInt8} (hS:nodeF q.body=(S,0)) (hb:okF q.body) (hg:kIz q.body=0) {v:Value} {u:World} {P:Nat→Prop} (h:NdV u P q.body v) (hE:EnvP u):Calls Tryz.prog 45 #[v] u fun e w'=>e=.returned (.tuple #[.string ⟨S.toArray⟩,.int .i64 0])∧Upto [] u w' :=
 (pnode_calls q.body v u P h (by have:=(great_lim hg).1;omega) (ok_in _ _ (Nat.le_refl _) hb) hE).mono fun e w' h=>by
  rw [hS] at h
  exact h
theorem equalq_to {q:Qn} (hb:okF q.body) (hv:okV q.free) (hg:kIz q.body=0) {v v':Value} {u:World} {P P':Nat→Prop} (h:QnV u P q v) (h':QnV u P' q v'):Calls Tryz.prog 26 #[v,v'] u fun e w'=>e=.returned (.bool true)∧Upto [] u w':=by
 have h1:=(great_lim hg).1
 have h2:=inN.big (by decide) _ (ok_in _ q.body (Nat.le_refl _) hb)
 have h3:=hv.1
 have:=equalq_calls q q P P' v v' u (by omega) (by omega) h2 (by omega) (by omega) h2 h h'
 rwa [(alikeF_eq q q).2 rfl] at this
theorem qn_body {w:World} {P:Nat→Prop} {q:Qn} {f a0 a1 a2 a3 a4 a5:Value} (h:QnV w P q (.agg #[f,a0,a1,a2,a3,a4,a5])):NdV w P q.body (.agg #[a0,a1,a2,a3,a4,a5]):=by
 obtain⟨vf,b0,b1,b2,b3,b4,b5,e,-,hn⟩:=h
 simp only [Value.agg.injEq,Array.mk.injEq,List.cons.injEq,and_true] at e
 obtain⟨-,rfl,rfl,rfl,rfl,rfl,rfl⟩:=e
 exact hn
theorem same_self (n:Nd):kPx n n=true:=by
 have h:=(alikeF_eq ⟨[],n⟩ ⟨[],n⟩).2 rfl
 unfold kYx at h
 simpa using h
theorem equal_to {n:Nd} (hb:okF n) (hg:kIz n=0) {v v':Value} {u:World} {P P':Nat→Prop} (h:NdV u P n v) (h':NdV u P' n v'):Calls Tryz.prog 28 #[v,v'] u fun e w'=>e=.returned (.bool true)∧Upto [] u w':=by
 have h1:=(great_lim hg).1
 have h2:=inN.big (by decide) _ (ok_in _ n (Nat.le_refl _) hb)
 have:=equal_calls _ n (Nat.le_refl _) (by omega) h2 n (by omega) h2 P P' v v' u h h'
 rwa [same_self] at this
theorem printerRoundTrip_walk (q:Qn) (v:Value) (w:World) (hq:ArgQ w q v) (hE:Env w∧SEnv w∧FEnv w∧PEnv w):Calls Tryz.prog 13 #[v] w fun e w'=>e=.returned (.bool true)∧Upto [] w w':=by
 have hf:=hq.facts
 have HEE:=Lib.hid (fun u (hu:Upto [] w u)=>EnvP.ext hE hu)
 have HK:Hid (∀u,Upto [] w u→Calls Tryz.prog 42 #[] u fun e w'=>e=.returned (.bool true)∧Upto [] u w'):=Lib.hid (fun u hu=>kTw u (HEE.out u hu))
 have HAS:=Lib.hid (fun u (hu:Upto [] w u)=>kVw q v u AnyB (hf.ext hu).val hf.sz hf.big hf.fl hf.fn)
 have HRT:=Lib.hid (fun u (hu:Upto [] w u)=>kTx q v u AnyB (hf.ext hu).val hf.sz hf.ins hf.fn)
 have HOF:=Lib.hid (fun u (hu:Upto [] w u)=>ofq_calls q v u AnyB (hf.ext hu).val hf.sz hf.big hf.fl)
 have HSZ:=Lib.hid (And.intro hf.sz (And.intro hf.ins hf.fn))
 obtain⟨f1,f3,o1,a1,a2,a3,s1,n1,m1,l1,l2,l3,rfl,-,-⟩:=hf.val.open
 obtain⟨L,hL⟩:∃L,q.free.length=L:=⟨_,rfl⟩
 rw [hL] at HAS HRT HOF ⊢
 have HU1:Hid (Upto [] w (w.alloc (.cells #[.slice f1 L f3,.int .i64 o1,.slice a1 a2 a3,.int .i64 s1,.int .i64 n1,.int .i64 m1,.slice l1 l2 l3] 45))):=Lib.hid ((Upto.refl [] w).alloc _)
 have HB1:Hid ((w.alloc (.cells #[.slice f1 L f3,.int .i64 o1,.slice a1 a2 a3,.int .i64 s1,.int .i64 n1,.int .i64 m1,.slice l1 l2 l3] 45)).heap[w.heap.size]?=some (.cells #[.slice f1 L f3,.int .i64 o1,.slice a1 a2 a3,.int .i64 s1,.int .i64 n1,.int .i64 m1,.slice l1 l2 l3] 45 (0,0))):=Lib.hid (kAq w _)
 have c1:∀b:Bool,b=true∨b=false:=fun b=>by cases b<;>simp
 clear hq hf hE hL
 rcases c1 (kVx q) with aq | aq
 case inr =>
  rw [aq] at HAS
  clear aq
  have hp1:=HB1.out
  obtain⟨p0,p1,p2,p3,p4,p5,p6⟩:=kBw hp1
  clear hp1
  go_enter Tryz.func13,Tryz.ntmps13
  go_wp2_with fail
  refine (HAS.out _ HU1.out).mono ?_
  rintro e w2 ⟨rfl,hu2⟩
  have HU2:=Lib.hid (HU1.out.trans_ext hu2)
  have HB2:=Lib.hid (hu2.at HB1.out (by simp))
  clear p0 p1 p2 p3 p4 p5 p6
  clear hu2
  go_wp2_with fail
  refine (HK.out _ HU2.out).mono ?_
  rintro e wk ⟨rfl,huk⟩
  have HUK:=Lib.hid (HU2.out.trans_ext huk)
  clear huk
  go_wp2_with fail
  go_ret
  exact⟨rfl,HUK.out⟩
 rw [aq] at HAS
 by_cases rq:kIj kBj q=0
 case neg =>
  obtain⟨R,hR⟩:∃R,kIj kBj q=R:=⟨_,rfl⟩
  rw [hR] at HRT rq
  have r1:((R:Int)==0)=false:=by rw [beq_eq_false_iff_ne];omega
  have r2:((R:Int) != 0)=true:=by rw [bne,r1];rfl
  clear aq hR rq
  have hp1:=HB1.out
  obtain⟨p0,p1,p2,p3,p4,p5,p6⟩:=kBw hp1
  clear hp1
  go_enter Tryz.func13,Tryz.ntmps13
  go_wp2_with fail
  refine (HAS.out _ HU1.out).mono ?_
  rintro e w2 ⟨rfl,hu2⟩
  have HU2:=Lib.hid (HU1.out.trans_ext hu2)
  have HB2:=Lib.hid (hu2.at HB1.out (by simp))
  clear p0 p1 p2 p3 p4 p5 p6
  have hp2:=HB2.out
  obtain⟨p0,p1,p2,p3,p4,p5,p6⟩:=kBw hp2
  clear hp2
  clear hu2
  go_wp2_with fail
  refine (HRT.out _ HU2.out).mono ?_
  rintro e w3 ⟨rfl,hu3⟩
  have HU3:=Lib.hid (HU2.out.trans_ext hu3)
  have HB3:=Lib.hid (hu3.at HB2.out (by simp))
  clear p0 p1 p2 p3 p4 p5 p6
  clear hu3
  go_wp2_with fail
  refine (HK.out _ HU3.out).mono ?_
  rintro e wk ⟨rfl,huk⟩
  have HUK:=Lib.hid (HU3.out.trans_ext huk)
  clear huk
  go_wp2_with fail
  go_ret
  exact⟨rfl,HUK.out⟩
 rw [rq] at HRT
 have gq:=right_q aq rq
 have HRR:=Lib.hid rq
 have HPR:=Lib.hid (gq.print rq)
 have HRD:=Lib.hid gq.read
 have HND:=Lib.hid (gq.node rq)
 have HRB:=Lib.hid gq.bare
 have HOK:=Lib.hid (And.intro gq.v (And.intro gq.b gq.g))
 have HLN:Hid ((jn (prQ q)).length≤281474976710656∧(jn (prT true q.body)).length≤281474976710656):=Lib.hid ⟨by have:=gq.len;omega,by have:=gq.blen;omega⟩
 clear aq rq gq
 generalize jn (prQ q)=S at *
 generalize jn (prT true q.body)=T at *
 have hp1:=HB1.out
 obtain⟨p0,p1,p2,p3,p4,p5,p6⟩:=kBw hp1
 clear hp1
 go_enter Tryz.func13,Tryz.ntmps13
 go_wp2_with fail
 refine (HAS.out _ HU1.out).mono ?_
 rintro e w2 ⟨rfl,hu2⟩
 have HU2:=Lib.hid (HU1.out.trans_ext hu2)
 have HB2:=Lib.hid (hu2.at HB1.out (by simp))
 clear p0 p1 p2 p3 p4 p5 p6
 have hp2:=HB2.out
 obtain⟨p0,p1,p2,p3,p4,p5,p6⟩:=kBw hp2
 clear hp2
 clear hu2
 go_wp2_with fail
 refine (HRT.out _ HU2.out).mono ?_
 rintro e w3 ⟨rfl,hu3⟩
 have HU3:=Lib.hid (HU2.out.trans_ext hu3)
 have HB3:=Lib.hid (hu3.at HB2.out (by simp))
 clear p0 p1 p2 p3 p4 p5 p6
 have hp3:=HB3.out
 obtain⟨p0,p1,p2,p3,p4,p5,p6⟩:=kBw hp3
 clear hp3
 clear hu3
 go_wp2_with fail
 refine (HOF.out _ HU3.out).mono ?_
 rintro e w4 ⟨v4,rfl,hq4,hu4⟩
 have hq4b:=QnV.keep (Keep.mono (fun b _ _=>(trivial:AnyB b))) hq4
 obtain⟨x1,x2,x3,xo,xa1,xa2,xa3,xs,xn,xm,xl1,xl2,xl3,rfl⟩:=hq4.seven
 have HQ4:=Lib.hid hq4b
 clear hq4 hq4b
 have ua4:Upto [] w4 (w4.alloc (.cells #[.slice x1 x2 x3,.int .i64 xo,.slice xa1 xa2 xa3,.int .i64 xs,.int .i64 xn,.int .i64 xm,.slice xl1 xl2 xl3] 48)):=((Upto.refl [] w4).alloc _)
 have HU4:=Lib.hid ((HU3.out.trans_ext hu4).trans_ext ua4)
 have HG4:=Lib.hid ua4
 have HB4:=Lib.hid ((hu4.trans_ext ua4).at HB3.out (by simp))
 have HX4:Hid ((w4.alloc (.cells #[.slice x1 x2 x3,.int .i64 xo,.slice xa1 xa2 xa3,.int .i64 xs,.int .i64 xn,.int .i64 xm,.slice xl1 xl2 xl3] 48)).heap[w4.heap.size]?=some (.cells #[.slice x1 x2 x3,.int .i64 xo,.slice xa1 xa2 xa3,.int .i64 xs,.int .i64 xn,.int .i64 xm,.slice xl1 xl2 xl3] 48 (0,0))):=Lib.hid (kAq w4 _)
 clear p0 p1 p2 p3 p4 p5 p6
 have hx4:=HX4.out
 obtain⟨x0,x1,x2,x3,x4,x5,x6⟩:=kBw hx4
 clear hx4
 clear hu4 ua4
 go_wp2_with fail
 have HQX:=Lib.hid (fun u (hu:Upto [] w4 u)=>QnV.keep (Keep.upto hu (by simp)) HQ4.out)
 refine (print_to HPR.out HRR.out (HQX.out _ HG4.out) (HEE.out _ HU4.out)).mono ?_
 rintro e w5 ⟨rfl,hu5⟩
 have HU5:=Lib.hid (HU4.out.trans_ext hu5)
 have HB5:=Lib.hid (hu5.at HB4.out (by simp))
 have HX5:=Lib.hid (hu5.at HX4.out (by simp))
 have HD5:=Lib.hid (HG4.out.trans_ext hu5)
 clear x0 x1 x2 x3 x4 x5 x6
 clear hu5
 go_wp2_with fail
 refine (parse_to HRD.out HLN.out.1 _ (HEE.out _ HU5.out)).mono ?_
 rintro e w6 ⟨v6,rfl,hq6,hu6⟩
 have hq6b:=QnV.keep (Keep.mono (fun b _ _=>(trivial:AnyB b))) hq6
 obtain⟨y1,y2,y3,yo,ya1,ya2,ya3,ys,yn,ym,yl1,yl2,yl3,rfl⟩:=hq6.seven
 have HQ6:=Lib.hid hq6b
 clear hq6 hq6b
 have ua6:Upto [] w6 ((w6.alloc (.cells #[.slice y1 y2 y3,.int .i64 yo,.slice ya1 ya2 ya3,.int .i64 ys,.int .i64 yn,.int .i64 ym,.slice yl1 yl2 yl3] 48)).alloc (.cells #[.int .i64 0,.int .i64 0] 36)):=(((Upto.refl [] w6).alloc _).alloc _)
 have HU6:=Lib.hid ((HU5.out.trans_ext hu6).trans_ext ua6)
 have HG6:=Lib.hid ua6
 have HE6:=Lib.hid (hu6.trans_ext ua6)
 have HB6:=Lib.hid ((hu6.trans_ext ua6).at HB5.out (by simp))
 have HX6:=Lib.hid ((hu6.trans_ext ua6).at HX5.out (by simp))
 have HY6:Hid (((w6.alloc (.cells #[.slice y1 y2 y3,.int .i64 yo,.slice ya1 ya2 ya3,.int .i64 ys,.int .i64 yn,.int .i64 ym,.slice yl1 yl2 yl3] 48)).alloc (.cells #[.int .i64 0,.int .i64 0] 36)).heap[w6.heap.size]?=some (.cells #[.slice y1 y2 y3,.int .i64 yo,.slice ya1 ya2 ya3,.int .i64 ys,.int .i64 yn,.int .i64 ym,.slice yl1 yl2 yl3] 48 (0,0))):=Lib.hid (kCx (kAq w6 _) _)
 have HP6:Hid (((w6.alloc (.cells #[.slice y1 y2 y3,.int .i64 yo,.slice ya1 ya2 ya3,.int .i64 ys,.int .i64 yn,.int .i64 ym,.slice yl1 yl2 yl3] 48)).alloc (.cells #[.int .i64 0,.int .i64 0] 36)).heap[w6.heap.size+1]?=some (.cells #[.int .i64 0,.int .i64 0] 36 (0,0))):=Lib.hid (kFz w6 _ _)
 have hx6:=HX6.out
 obtain⟨x0,x1,x2,x3,x4,x5,x6⟩:=kBw hx6
 clear hx6
 clear hu6 ua6
 go_wp2_with fail
 have HBX:=Lib.hid (qn_body (HQX.out _ (HD5.out.trans_ext HE6.out)))
 refine (node_to HND.out HOK.out.2.1 HOK.out.2.2 HBX.out (HEE.out _ HU6.out)).mono ?_
 rintro e w7 ⟨rfl,hu7⟩
 have HU7:=Lib.hid (HU6.out.trans_ext hu7)
 have HV7:=Lib.hid hu7
 have HB7:=Lib.hid (hu7.at HB6.out (by simp))
 have HX7:=Lib.hid (hu7.at HX6.out (by simp))
 have HY7:=Lib.hid (hu7.at HY6.out (by simp))
 have HP7:=Lib.hid (hu7.at HP6.out (by simp))
 clear x0 x1 x2 x3 x4 x5 x6
 clear hu7
 go_wp2_with fail
 refine (parseF_to HRB.out HLN.out.2 _ (HEE.out _ HU7.out)).mono ?_
 rintro e w8 ⟨v8,rfl,hn8,hu8⟩
 have hn8b:=hn8.mono (fun b _ _=>(trivial:AnyB b))
 obtain⟨ko,ka1,ka2,ka3,ks,kn,km,kl1,kl2,kl3,rfl⟩:=hn8.six
 have HN8b:=Lib.hid hn8b
 clear hn8 hn8b
 have ua8:Upto [] w8 ((w8.alloc (.cells #[.int .i64 ko,.slice ka1 ka2 ka3,.int .i64 ks,.int .i64 kn,.int .i64 km,.slice kl1 kl2 kl3] 34)).alloc (.cells #[.int .i64 0,.int .i64 0] 36)):=(((Upto.refl [] w8).alloc _).alloc _)
 have HU8:=Lib.hid ((HU7.out.trans_ext hu8).trans_ext ua8)
 have HG8:=Lib.hid ua8
 have HE8:=Lib.hid (hu8.trans_ext ua8)
 have HB8:=Lib.hid ((hu8.trans_ext ua8).at HB7.out (by simp))
 have HX8:=Lib.hid ((hu8.trans_ext ua8).at HX7.out (by simp))
 have HY8:=Lib.hid ((hu8.trans_ext ua8).at HY7.out (by simp))
 have HP8:=Lib.hid ((hu8.trans_ext ua8).at HP7.out (by simp))
 have HN8:Hid (((w8.alloc (.cells #[.int .i64 ko,.slice ka1 ka2 ka3,.int .i64 ks,.int .i64 kn,.int .i64 km,.slice kl1 kl2 kl3] 34)).alloc (.cells #[.int .i64 0,.int .i64 0] 36)).heap[w8.heap.size]?=some (.cells #[.int .i64 ko,.slice ka1 ka2 ka3,.int .i64 ks,.int .i64 kn,.int .i64 km,.slice kl1 kl2 kl3] 34 (0,0))):=Lib.hid (kCx (kAq w8 _) _)
 have hx8:=HX8.out
 obtain⟨x0,x1,x2,x3,x4,x5,x6⟩:=kBw hx8
 clear hx8
 have hy8:=HY8.out
 obtain⟨y0,y1,y2,y3,y4,y5,y6⟩:=kBw hy8
 clear hy8
 have hc8:=HP8.out
 obtain⟨c0,c1⟩:=kKx hc8
 clear hc8
 have hd8:=HN8.out
 obtain⟨d0,d1,d2,d3,d4,d5⟩:=kAx hd8
 clear hd8
 clear hu8 ua8
 go_wp2_with fail
 have HEX:=Lib.hid (HQX.out _ ((HD5.out.trans_ext HE6.out).trans_ext (HV7.out.trans_ext HE8.out)))
 have HEY:=Lib.hid (QnV.keep (Keep.upto (HG6.out.trans_ext (HV7.out.trans_ext HE8.out)) (by simp)) HQ6.out)
 refine (equalq_to HOK.out.2.1 HOK.out.1 HOK.out.2.2 HEX.out HEY.out).mono ?_
 rintro e w9 ⟨rfl,hu9⟩
 have HU9:=Lib.hid (HU8.out.trans_ext hu9)
 have HV9:=Lib.hid hu9
 have HB9:=Lib.hid (hu9.at HB8.out (by simp))
 have HX9:=Lib.hid (hu9.at HX8.out (by simp))
 have HY9:=Lib.hid (hu9.at HY8.out (by simp))
 have HP9:=Lib.hid (hu9.at HP8.out (by simp))
 have HN9:=Lib.hid (hu9.at HN8.out (by simp))
 clear x0 x1 x2 x3 x4 x5 x6 y0 y1 y2 y3 y4 y5 y6 c0 c1 d0 d1 d2 d3 d4 d5
 have hx9:=HX9.out
 obtain⟨x0,x1,x2,x3,x4,x5,x6⟩:=kBw hx9
 clear hx9
 have hd9:=HN9.out
 obtain⟨d0,d1,d2,d3,d4,d5⟩:=kAx hd9
 clear hd9
 clear hu9
 go_wp2_with fail
 have HEN:=Lib.hid (HN8b.out.ext (HG8.out.trans_ext HV9.out))
 have HEB:=Lib.hid (qn_body (QnV.keep (Keep.upto HV9.out (by simp)) HEX.out))
 refine (equal_to HOK.out.2.1 HOK.out.2.2 HEN.out HEB.out).mono ?_
 rintro e w10 ⟨rfl,hu10⟩
 have HU10:=Lib.hid (HU9.out.trans_ext hu10)
 have HB10:=Lib.hid (hu10.at HB9.out (by simp))
 have HX10:=Lib.hid (hu10.at HX9.out (by simp))
 have HY10:=Lib.hid (hu10.at HY9.out (by simp))
 have HP10:=Lib.hid (hu10.at HP9.out (by simp))
 have HN10:=Lib.hid (hu10.at HN9.out (by simp))
 clear x0 x1 x2 x3 x4 x5 x6 d0 d1 d2 d3 d4 d5
 clear hu10
 go_wp2_with fail
 refine (HK.out _ HU10.out).mono ?_
 rintro e wk ⟨rfl,huk⟩
 have HUK:=Lib.hid (HU10.out.trans_ext huk)
 clear huk
 go_wp2_with fail
 go_ret
 exact⟨rfl,HUK.out⟩
end Go.Proofs.YtkhbpebpljdifaaGreatDoor
