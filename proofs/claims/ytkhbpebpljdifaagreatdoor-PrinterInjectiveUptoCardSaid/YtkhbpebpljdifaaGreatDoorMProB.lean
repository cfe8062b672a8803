/- Merged texts. -/
import Derived.Test.YtkhbpebpljdifaaGreatDoorMPrnB
set_option maxRecDepth 100000
set_option maxHeartbeats 25600000
namespace Go.Proofs.YtkhbpebpljdifaaGreatDoor
open Go.RowKit Go.PL Go.Maps
theorem asked_lim {q:Qn} (h:kVx q=true):kNw q.body≤60∧kCz q.body≤300:=by
 unfold kVx fewF at h
 simp only [Bool.and_eq_true,decide_eq_true_eq] at h
 exact h.1.2.1
theorem right_q {q:Qn} (ha:kVx q=true) (hr:kIj kBj q=0):kYz q:=by
 obtain⟨hv,hb,hg⟩:=right_ok (fun x h=>kXz h) hr
 obtain⟨h1,h2⟩:=asked_lim ha
 have h3:=lv_le _ q.body (Nat.le_refl _) true
 have h4:=quest_len hv hb
 have h5:=jn_len hb true
 exact⟨hv,hb,hg,by omega,by omega,by omega⟩
theorem kYz.print {q:Qn} (h:kYz q) (hr:kIj kBj q=0):kTk q=(jn (prQ q),0):=by
 unfold kTk
 rw [if_pos hr,cutP_short h.len]
theorem print_to {q:Qn} {S:List UInt8} (hS:kTk q=(S,0)) (hr:kIj kBj q=0) {v:Value} {u:World} {P:Nat→Prop} (h:QnV u P q v) (hE:EnvP u):Calls Tryz.prog 43 #[v] u fun e w'=>e=.returned (.tuple #[.string ⟨S.toArray⟩,.int .i64 0])∧Upto [] u w' :=
 (print_right q v u P h hr hE).mono fun e w' h=>by
  rw [hS] at h
  exact h
theorem printerInjective_walk (p:Qn) (vp:Value) (q:Qn) (vq:Value) (w:World) (hp:ArgQ w p vp) (hq:ArgQ w q vq) (hE:Env w∧SEnv w∧FEnv w∧PEnv w):Calls Tryz.prog 8 #[vp,vq] w fun e w'=>e=.returned (.bool true)∧Upto [] w w':=by
 have fp:=hp.facts
 have fq:=hq.facts
 have HEE:=Lib.hid (fun u (hu:Upto [] w u)=>EnvP.ext hE hu)
 have HK:Hid (∀u,Upto [] w u→Calls Tryz.prog 42 #[] u fun e w'=>e=.returned (.bool true)∧Upto [] u w'):=Lib.hid (fun u hu=>kTw u (HEE.out u hu))
 have HAP:=Lib.hid (fun u (hu:Upto [] w u)=>kVw p vp u AnyB (fp.ext hu).val fp.sz fp.big fp.fl fp.fn)
 have HAQ:=Lib.hid (fun u (hu:Upto [] w u)=>kVw q vq u AnyB (fq.ext hu).val fq.sz fq.big fq.fl fq.fn)
 have HRP:=Lib.hid (fun u (hu:Upto [] w u)=>kTx p vp u AnyB (fp.ext hu).val fp.sz fp.ins fp.fn)
 have HRQ:=Lib.hid (fun u (hu:Upto [] w u)=>kTx q vq u AnyB (fq.ext hu).val fq.sz fq.ins fq.fn)
 have HOP:=Lib.hid (fun u (hu:Upto [] w u)=>ofq_calls p vp u AnyB (fp.ext hu).val fp.sz fp.big fp.fl)
 have HOQ:=Lib.hid (fun u (hu:Upto [] w u)=>ofq_calls q vq u AnyB (fq.ext hu).val fq.sz fq.big fq.fl)
 have HAL:=Lib.hid (fun u (hu:Upto [] w u)=>alike_calls p q AnyB AnyB vp vq u fp.fl (huge_of _ fp.sz fp.big) fq.fl (fp.ext hu).val (fq.ext hu).val)
 obtain⟨f1,f3,o1,a1,a2,a3,s1,n1,m1,l1,l2,l3,rfl,-,-⟩:=fp.val.open
 obtain⟨g1,g3,j1,b1,b2,b3,t1,x1,y1,k1,k2,k3,rfl,-,-⟩:=fq.val.open
 obtain⟨L,hL⟩:∃L,p.free.length=L:=⟨_,rfl⟩
 obtain⟨M,hM⟩:∃M,q.free.length=M:=⟨_,rfl⟩
 rw [hL] at HAP HRP HOP
 rw [hM] at HAQ HRQ HOQ
 rw [hL,hM] at HAL ⊢
 have HU1:Hid (Upto [] w ((w.alloc (.cells #[.slice f1 L f3,.int .i64 o1,.slice a1 a2 a3,.int .i64 s1,.int .i64 n1,.int .i64 m1,.slice l1 l2 l3] 45)).alloc (.cells #[.slice g1 M g3,.int .i64 j1,.slice b1 b2 b3,.int .i64 t1,.int .i64 x1,.int .i64 y1,.slice k1 k2 k3] 45))):=Lib.hid (((Upto.refl [] w).alloc _).alloc _)
 have HB1:Hid (((w.alloc (.cells #[.slice f1 L f3,.int .i64 o1,.slice a1 a2 a3,.int .i64 s1,.int .i64 n1,.int .i64 m1,.slice l1 l2 l3] 45)).alloc (.cells #[.slice g1 M g3,.int .i64 j1,.slice b1 b2 b3,.int .i64 t1,.int .i64 x1,.int .i64 y1,.slice k1 k2 k3] 45)).heap[w.heap.size]?=some (.cells #[.slice f1 L f3,.int .i64 o1,.slice a1 a2 a3,.int .i64 s1,.int .i64 n1,.int .i64 m1,.slice l1 l2 l3] 45 (0,0))):=Lib.hid (kCx (kAq w _) _)
 have HC1:Hid (((w.alloc (.cells #[.slice f1 L f3,.int .i64 o1,.slice a1 a2 a3,.int .i64 s1,.int .i64 n1,.int .i64 m1,.slice l1 l2 l3] 45)).alloc (.cells #[.slice g1 M g3,.int .i64 j1,.slice b1 b2 b3,.int .i64 t1,.int .i64 x1,.int .i64 y1,.slice k1 k2 k3] 45)).heap[w.heap.size+1]?=some (.cells #[.slice g1 M g3,.int .i64 j1,.slice b1 b2 b3,.int .i64 t1,.int .i64 x1,.int .i64 y1,.slice k1 k2 k3] 45 (0,0))):=Lib.hid (kFz w _ _)
 have c1:∀b:Bool,b=true∨b=false:=fun b=>by cases b<;>simp
 clear hp hq fp fq hE hL hM
 rcases c1 (kVx p) with ap | ap
 case inr =>
  rw [ap] at HAP
  clear ap
  have hp1:=HB1.out
  obtain⟨p0,p1,p2,p3,p4,p5,p6⟩:=kBw hp1
  clear hp1
  go_enter Tryz.func8,Tryz.ntmps8
  go_wp2_with fail
  refine (HAP.out _ HU1.out).mono ?_
  rintro e w2 ⟨rfl,hu2⟩
  have HU2:=Lib.hid (HU1.out.trans_ext hu2)
  have HB2:=Lib.hid (hu2.at HB1.out (by simp))
  have HC2:=Lib.hid (hu2.at HC1.out (by simp))
  clear p0 p1 p2 p3 p4 p5 p6
  clear hu2
  go_wp2_with fail
  refine (HK.out _ HU2.out).mono ?_
  rintro e wk ⟨rfl,huk⟩
  have HUK:=Lib.hid (HU2.out.trans_ext huk)
  clear huk
  go_wp2_with fail
  go_ret
  exact⟨rfl,HUK.out⟩
 rw [ap] at HAP
 rcases c1 (kVx q) with aq | aq
 case inr =>
  rw [aq] at HAQ
  clear ap aq
  have hp1:=HB1.out
  obtain⟨p0,p1,p2,p3,p4,p5,p6⟩:=kBw hp1
  clear hp1
  go_enter Tryz.func8,Tryz.ntmps8
  go_wp2_with fail
  refine (HAP.out _ HU1.out).mono ?_
  rintro e w2 ⟨rfl,hu2⟩
  have HU2:=Lib.hid (HU1.out.trans_ext hu2)
  have HB2:=Lib.hid (hu2.at HB1.out (by simp))
  have HC2:=Lib.hid (hu2.at HC1.out (by simp))
  clear p0 p1 p2 p3 p4 p5 p6
  have hq2:=HC2.out
  obtain⟨q0,q1,q2,q3,q4,q5,q6⟩:=kBw hq2
  clear hq2
  clear hu2
  go_wp2_with fail
  refine (HAQ.out _ HU2.out).mono ?_
  rintro e w3 ⟨rfl,hu3⟩
  have HU3:=Lib.hid (HU2.out.trans_ext hu3)
  have HB3:=Lib.hid (hu3.at HB2.out (by simp))
  have HC3:=Lib.hid (hu3.at HC2.out (by simp))
  clear q0 q1 q2 q3 q4 q5 q6
  clear hu3
  go_wp2_with fail
  refine (HK.out _ HU3.out).mono ?_
  rintro e wk ⟨rfl,huk⟩
  have HUK:=Lib.hid (HU3.out.trans_ext huk)
  clear huk
  go_wp2_with fail
  go_ret
  exact⟨rfl,HUK.out⟩
 rw [aq] at HAQ
 by_cases rp:kIj kBj p=0
 case neg =>
  obtain⟨R,hR⟩:∃R,kIj kBj p=R:=⟨_,rfl⟩
  rw [hR] at HRP rp
  have r1:((R:Int)==0)=false:=by rw [beq_eq_false_iff_ne];omega
  have r2:((R:Int) != 0)=true:=by rw [bne,r1];rfl
  clear ap aq hR rp
  have hp1:=HB1.out
  obtain⟨p0,p1,p2,p3,p4,p5,p6⟩:=kBw hp1
  clear hp1
  go_enter Tryz.func8,Tryz.ntmps8
  go_wp2_with fail
  refine (HAP.out _ HU1.out).mono ?_
  rintro e w2 ⟨rfl,hu2⟩
  have HU2:=Lib.hid (HU1.out.trans_ext hu2)
  have HB2:=Lib.hid (hu2.at HB1.out (by simp))
  have HC2:=Lib.hid (hu2.at HC1.out (by simp))
  clear p0 p1 p2 p3 p4 p5 p6
  have hq2:=HC2.out
  obtain⟨q0,q1,q2,q3,q4,q5,q6⟩:=kBw hq2
  clear hq2
  clear hu2
  go_wp2_with fail
  refine (HAQ.out _ HU2.out).mono ?_
  rintro e w3 ⟨rfl,hu3⟩
  have HU3:=Lib.hid (HU2.out.trans_ext hu3)
  have HB3:=Lib.hid (hu3.at HB2.out (by simp))
  have HC3:=Lib.hid (hu3.at HC2.out (by simp))
  clear q0 q1 q2 q3 q4 q5 q6
  have hp3:=HB3.out
  obtain⟨p0,p1,p2,p3,p4,p5,p6⟩:=kBw hp3
  clear hp3
  clear hu3
  go_wp2_with fail
  refine (HRP.out _ HU3.out).mono ?_
  rintro e w4 ⟨rfl,hu4⟩
  have HU4:=Lib.hid (HU3.out.trans_ext hu4)
  have HB4:=Lib.hid (hu4.at HB3.out (by simp))
  have HC4:=Lib.hid (hu4.at HC3.out (by simp))
  clear p0 p1 p2 p3 p4 p5 p6
  clear hu4
  go_wp2_with fail
  refine (HK.out _ HU4.out).mono ?_
  rintro e wk ⟨rfl,huk⟩
  have HUK:=Lib.hid (HU4.out.trans_ext huk)
  clear huk
  go_wp2_with fail
  go_ret
  exact⟨rfl,HUK.out⟩
 rw [rp] at HRP
 by_cases rq:kIj kBj q=0
 case neg =>
  obtain⟨R,hR⟩:∃R,kIj kBj q=R:=⟨_,rfl⟩
  rw [hR] at HRQ rq
  have r1:((R:Int)==0)=false:=by rw [beq_eq_false_iff_ne];omega
  have r2:((R:Int) != 0)=true:=by rw [bne,r1];rfl
  clear ap aq rp hR rq
  have hp1:=HB1.out
  obtain⟨p0,p1,p2,p3,p4,p5,p6⟩:=kBw hp1
  clear hp1
  go_enter Tryz.func8,Tryz.ntmps8
  go_wp2_with fail
  refine (HAP.out _ HU1.out).mono ?_
  rintro e w2 ⟨rfl,hu2⟩
  have HU2:=Lib.hid (HU1.out.trans_ext hu2)
  have HB2:=Lib.hid (hu2.at HB1.out (by simp))
  have HC2:=Lib.hid (hu2.at HC1.out (by simp))
  clear p0 p1 p2 p3 p4 p5 p6
  have hq2:=HC2.out
  obtain⟨q0,q1,q2,q3,q4,q5,q6⟩:=kBw hq2
  clear hq2
  clear hu2
  go_wp2_with fail
  refine (HAQ.out _ HU2.out).mono ?_
  rintro e w3 ⟨rfl,hu3⟩
  have HU3:=Lib.hid (HU2.out.trans_ext hu3)
  have HB3:=Lib.hid (hu3.at HB2.out (by simp))
  have HC3:=Lib.hid (hu3.at HC2.out (by simp))
  clear q0 q1 q2 q3 q4 q5 q6
  have hp3:=HB3.out
  obtain⟨p0,p1,p2,p3,p4,p5,p6⟩:=kBw hp3
  clear hp3
  clear hu3
  go_wp2_with fail
  refine (HRP.out _ HU3.out).mono ?_
  rintro e w4 ⟨rfl,hu4⟩
  have HU4:=Lib.hid (HU3.out.trans_ext hu4)
  have HB4:=Lib.hid (hu4.at HB3.out (by simp))
  have HC4:=Lib.hid (hu4.at HC3.out (by simp))
  clear p0 p1 p2 p3 p4 p5 p6
  have hq4:=HC4.out
  obtain⟨q0,q1,q2,q3,q4,q5,q6⟩:=kBw hq4
  clear hq4
  clear hu4
  go_wp2_with fail
  refine (HRQ.out _ HU4.out).mono ?_
  rintro e w5 ⟨rfl,hu5⟩
  have HU5:=Lib.hid (HU4.out.trans_ext hu5)
  have HB5:=Lib.hid (hu5.at HB4.out (by simp))
  have HC5:=Lib.hid (hu5.at HC4.out (by simp))
  clear q0 q1 q2 q3 q4 q5 q6
  clear hu5
  go_wp2_with fail
  refine (HK.out _ HU5.out).mono ?_
  rintro e wk ⟨rfl,huk⟩
  have HUK:=Lib.hid (HU5.out.trans_ext huk)
  clear huk
  go_wp2_with fail
  go_ret
  exact⟨rfl,HUK.out⟩
 rw [rq] at HRQ
 have gp:=right_q ap rp
 have gq:=right_q aq rq
 have HRR:=Lib.hid (And.intro rp rq)
 have HPP:=Lib.hid (gp.print rp)
 have HPQ:=Lib.hid (gq.print rq)
 by_cases hpq:p=q
 ·have HA2:Hid (kYx p q=true):=Lib.hid ((alikeF_eq p q).2 hpq)
  rw [HA2.out] at HAL
  have hS:jn (prQ q)=jn (prQ p):=by rw [hpq]
  rw [hS] at HPQ
  clear ap aq rp rq gp gq hpq hS
  generalize jn (prQ p)=S at *
  have hp1:=HB1.out
  obtain⟨p0,p1,p2,p3,p4,p5,p6⟩:=kBw hp1
  clear hp1
  go_enter Tryz.func8,Tryz.ntmps8
  go_wp2_with fail
  refine (HAP.out _ HU1.out).mono ?_
  rintro e w2 ⟨rfl,hu2⟩
  have HU2:=Lib.hid (HU1.out.trans_ext hu2)
  have HB2:=Lib.hid (hu2.at HB1.out (by simp))
  have HC2:=Lib.hid (hu2.at HC1.out (by simp))
  clear p0 p1 p2 p3 p4 p5 p6
  have hq2:=HC2.out
  obtain⟨q0,q1,q2,q3,q4,q5,q6⟩:=kBw hq2
  clear hq2
  clear hu2
  go_wp2_with fail
  refine (HAQ.out _ HU2.out).mono ?_
  rintro e w3 ⟨rfl,hu3⟩
  have HU3:=Lib.hid (HU2.out.trans_ext hu3)
  have HB3:=Lib.hid (hu3.at HB2.out (by simp))
  have HC3:=Lib.hid (hu3.at HC2.out (by simp))
  clear q0 q1 q2 q3 q4 q5 q6
  have hp3:=HB3.out
  obtain⟨p0,p1,p2,p3,p4,p5,p6⟩:=kBw hp3
  clear hp3
  clear hu3
  go_wp2_with fail
  refine (HRP.out _ HU3.out).mono ?_
  rintro e w4 ⟨rfl,hu4⟩
  have HU4:=Lib.hid (HU3.out.trans_ext hu4)
  have HB4:=Lib.hid (hu4.at HB3.out (by simp))
  have HC4:=Lib.hid (hu4.at HC3.out (by simp))
  clear p0 p1 p2 p3 p4 p5 p6
  have hq4:=HC4.out
  obtain⟨q0,q1,q2,q3,q4,q5,q6⟩:=kBw hq4
  clear hq4
  clear hu4
  go_wp2_with fail
  refine (HRQ.out _ HU4.out).mono ?_
  rintro e w5 ⟨rfl,hu5⟩
  have HU5:=Lib.hid (HU4.out.trans_ext hu5)
  have HB5:=Lib.hid (hu5.at HB4.out (by simp))
  have HC5:=Lib.hid (hu5.at HC4.out (by simp))
  clear q0 q1 q2 q3 q4 q5 q6
  have hp5:=HB5.out
  obtain⟨p0,p1,p2,p3,p4,p5,p6⟩:=kBw hp5
  clear hp5
  clear hu5
  go_wp2_with fail
  refine (HOP.out _ HU5.out).mono ?_
  rintro e w6 ⟨v6,rfl,hq6,hu6⟩
  have HU6:=Lib.hid (HU5.out.trans_ext hu6)
  have HB6:=Lib.hid (hu6.at HB5.out (by simp))
  have HC6:=Lib.hid (hu6.at HC5.out (by simp))
  have HQ6:=Lib.hid hq6
  obtain⟨z1,z3,zo,za1,za2,za3,zs,zn,zm,zl1,zl2,zl3,rfl,-,-⟩:=hq6.open
  clear hq6
  clear p0 p1 p2 p3 p4 p5 p6
  clear hu6
  go_wp2_with fail
  refine (print_to HPP.out HRR.out.1 HQ6.out (HEE.out _ HU6.out)).mono ?_
  rintro e w7 ⟨rfl,hu7⟩
  have HU7:=Lib.hid (HU6.out.trans_ext hu7)
  have HB7:=Lib.hid (hu7.at HB6.out (by simp))
  have HC7:=Lib.hid (hu7.at HC6.out (by simp))
  have hq7:=HC7.out
  obtain⟨q0,q1,q2,q3,q4,q5,q6⟩:=kBw hq7
  clear hq7
  clear hu7
  go_wp2_with fail
  refine (HOQ.out _ HU7.out).mono ?_
  rintro e w8 ⟨v8,rfl,hq8,hu8⟩
  have HU8:=Lib.hid (HU7.out.trans_ext hu8)
  have HB8:=Lib.hid (hu8.at HB7.out (by simp))
  have HC8:=Lib.hid (hu8.at HC7.out (by simp))
  have HQ8:=Lib.hid hq8
  obtain⟨u1,u3,uo,ua1,ua2,ua3,us,un,um,ul1,ul2,ul3,rfl,-,-⟩:=hq8.open
  clear hq8
  clear q0 q1 q2 q3 q4 q5 q6
  clear hu8
  go_wp2_with fail
  refine (print_to HPQ.out HRR.out.2 HQ8.out (HEE.out _ HU8.out)).mono ?_
  rintro e w9 ⟨rfl,hu9⟩
  have HU9:=Lib.hid (HU8.out.trans_ext hu9)
  have HB9:=Lib.hid (hu9.at HB8.out (by simp))
  have HC9:=Lib.hid (hu9.at HC8.out (by simp))
  have hp9:=HB9.out
  obtain⟨p0,p1,p2,p3,p4,p5,p6⟩:=kBw hp9
  clear hp9
  have hq9:=HC9.out
  obtain⟨q0,q1,q2,q3,q4,q5,q6⟩:=kBw hq9
  clear hq9
  clear hu9
  go_wp2_with fail
  refine (HAL.out _ HU9.out).mono ?_
  rintro e w10 ⟨rfl,hu10⟩
  have HU10:=Lib.hid (HU9.out.trans_ext hu10)
  have HB10:=Lib.hid (hu10.at HB9.out (by simp))
  have HC10:=Lib.hid (hu10.at HC9.out (by simp))
  clear p0 p1 p2 p3 p4 p5 p6 q0 q1 q2 q3 q4 q5 q6
  clear hu10
  go_wp2_with fail
  refine (HK.out _ HU10.out).mono ?_
  rintro e wk ⟨rfl,huk⟩
  have HUK:=Lib.hid (HU10.out.trans_ext huk)
  clear huk
  go_wp2_with fail
  go_ret
  exact⟨rfl,HUK.out⟩
 ·have HA2:Hid (kYx p q=false):=Lib.hid (by
   rw [Bool.eq_false_iff]
   exact fun h=>hpq ((alikeF_eq p q).1 h))
  rw [HA2.out] at HAL
  have hS:jn (prQ p)≠jn (prQ q):=fun h=>hpq ((gp.inj gq).1 h)
  clear ap aq rp rq gp gq hpq
  generalize jn (prQ p)=S at *
  generalize jn (prQ q)=T at *
  have e1:(S==T)=false:=by simpa using hS
  have e2:(S != T)=true:=by rw [bne,e1];rfl
  clear hS
  have hp1:=HB1.out
  obtain⟨p0,p1,p2,p3,p4,p5,p6⟩:=kBw hp1
  clear hp1
  go_enter Tryz.func8,Tryz.ntmps8
  go_wp2_with fail
  refine (HAP.out _ HU1.out).mono ?_
  rintro e w2 ⟨rfl,hu2⟩
  have HU2:=Lib.hid (HU1.out.trans_ext hu2)
  have HB2:=Lib.hid (hu2.at HB1.out (by simp))
  have HC2:=Lib.hid (hu2.at HC1.out (by simp))
  clear p0 p1 p2 p3 p4 p5 p6
  have hq2:=HC2.out
  obtain⟨q0,q1,q2,q3,q4,q5,q6⟩:=kBw hq2
  clear hq2
  clear hu2
  go_wp2_with fail
  refine (HAQ.out _ HU2.out).mono ?_
  rintro e w3 ⟨rfl,hu3⟩
  have HU3:=Lib.hid (HU2.out.trans_ext hu3)
  have HB3:=Lib.hid (hu3.at HB2.out (by simp))
  have HC3:=Lib.hid (hu3.at HC2.out (by simp))
  clear q0 q1 q2 q3 q4 q5 q6
  have hp3:=HB3.out
  obtain⟨p0,p1,p2,p3,p4,p5,p6⟩:=kBw hp3
  clear hp3
  clear hu3
  go_wp2_with fail
  refine (HRP.out _ HU3.out).mono ?_
  rintro e w4 ⟨rfl,hu4⟩
  have HU4:=Lib.hid (HU3.out.trans_ext hu4)
  have HB4:=Lib.hid (hu4.at HB3.out (by simp))
  have HC4:=Lib.hid (hu4.at HC3.out (by simp))
  clear p0 p1 p2 p3 p4 p5 p6
  have hq4:=HC4.out
  obtain⟨q0,q1,q2,q3,q4,q5,q6⟩:=kBw hq4
  clear hq4
  clear hu4
  go_wp2_with fail
  refine (HRQ.out _ HU4.out).mono ?_
  rintro e w5 ⟨rfl,hu5⟩
  have HU5:=Lib.hid (HU4.out.trans_ext hu5)
  have HB5:=Lib.hid (hu5.at HB4.out (by simp))
  have HC5:=Lib.hid (hu5.at HC4.out (by simp))
  clear q0 q1 q2 q3 q4 q5 q6
  have hp5:=HB5.out
  obtain⟨p0,p1,p2,p3,p4,p5,p6⟩:=kBw hp5
  clear hp5
  clear hu5
  go_wp2_with fail
  refine (HOP.out _ HU5.out).mono ?_
  rintro e w6 ⟨v6,rfl,hq6,hu6⟩
  have HU6:=Lib.hid (HU5.out.trans_ext hu6)
  have HB6:=Lib.hid (hu6.at HB5.out (by simp))
  have HC6:=Lib.hid (hu6.at HC5.out (by simp))
  have HQ6:=Lib.hid hq6
  obtain⟨z1,z3,zo,za1,za2,za3,zs,zn,zm,zl1,zl2,zl3,rfl,-,-⟩:=hq6.open
  clear hq6
  clear p0 p1 p2 p3 p4 p5 p6
  clear hu6
  go_wp2_with fail
  refine (print_to HPP.out HRR.out.1 HQ6.out (HEE.out _ HU6.out)).mono ?_
  rintro e w7 ⟨rfl,hu7⟩
  have HU7:=Lib.hid (HU6.out.trans_ext hu7)
  have HB7:=Lib.hid (hu7.at HB6.out (by simp))
  have HC7:=Lib.hid (hu7.at HC6.out (by simp))
  have hq7:=HC7.out
  obtain⟨q0,q1,q2,q3,q4,q5,q6⟩:=kBw hq7
  clear hq7
  clear hu7
  go_wp2_with fail
  refine (HOQ.out _ HU7.out).mono ?_
  rintro e w8 ⟨v8,rfl,hq8,hu8⟩
  have HU8:=Lib.hid (HU7.out.trans_ext hu8)
  have HB8:=Lib.hid (hu8.at HB7.out (by simp))
  have HC8:=Lib.hid (hu8.at HC7.out (by simp))
  have HQ8:=Lib.hid hq8
  obtain⟨u1,u3,uo,ua1,ua2,ua3,us,un,um,ul1,ul2,ul3,rfl,-,-⟩:=hq8.open
  clear hq8
  clear q0 q1 q2 q3 q4 q5 q6
  clear hu8
  go_wp2_with fail
  refine (print_to HPQ.out HRR.out.2 HQ8.out (HEE.out _ HU8.out)).mono ?_
  rintro e w9 ⟨rfl,hu9⟩
  have HU9:=Lib.hid (HU8.out.trans_ext hu9)
  have HB9:=Lib.hid (hu9.at HB8.out (by simp))
  have HC9:=Lib.hid (hu9.at HC8.out (by simp))
  have hp9:=HB9.out
  obtain⟨p0,p1,p2,p3,p4,p5,p6⟩:=kBw hp9
  clear hp9
  have hq9:=HC9.out
  obtain⟨q0,q1,q2,q3,q4,q5,q6⟩:=kBw hq9
  clear hq9
  clear hu9
  go_wp2_with fail
  refine (HAL.out _ HU9.out).mono ?_
  rintro e w10 ⟨rfl,hu10⟩
  have HU10:=Lib.hid (HU9.out.trans_ext hu10)
  have HB10:=Lib.hid (hu10.at HB9.out (by simp))
  have HC10:=Lib.hid (hu10.at HC9.out (by simp))
  clear p0 p1 p2 p3 p4 p5 p6 q0 q1 q2 q3 q4 q5 q6
  clear hu10
  go_wp2_with fail
  refine (HK.out _ HU10.out).mono ?_
  rintro e wk ⟨rfl,huk⟩
  have HUK:=Lib.hid (HU10.out.trans_ext huk)
  clear huk
  go_wp2_with fail
  go_ret
  exact⟨rfl,HUK.out⟩
end Go.Proofs.YtkhbpebpljdifaaGreatDoor
