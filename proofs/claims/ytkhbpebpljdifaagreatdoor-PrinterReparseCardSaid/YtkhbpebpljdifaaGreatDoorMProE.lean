/- Merged texts. -/
import Derived.Test.YtkhbpebpljdifaaGreatDoorMPrnE
set_option maxRecDepth 100000
set_option maxHeartbeats 25600000
namespace Go.Proofs.YtkhbpebpljdifaaGreatDoor
open Go.RowKit Go.PL Go.Maps
theorem kYz.print {q:Qn} (h:kYz q) (hr:kIj kBj q=0):kTk q=(jn (prQ q),0):=by
 unfold kTk
 rw [if_pos hr,cutP_short h.len]
theorem prQ_ne (q:Qn):prQ q≠[]:=by
 unfold prQ
 intro h
 exact prT_ne true q.body (List.append_eq_nil_iff.1 h).2
theorem real_ident {x:List UInt8} (h:Real 1 x 0):kBj x=true:=by
 rcases h with⟨b,-,-,h1,-⟩ | ⟨h1,h2,h3⟩
 ·cases h1
 ·unfold kBj
  rw [h3]
  simp only [Bool.and_eq_true,decide_eq_true_eq]
  exact⟨⟨h1,List.all_eq_true.2 h2⟩,by first | trivial | rfl⟩
theorem ok_form:∀(k:Nat) (nd:Nd),kCz nd≤k→okF nd→kKk kBj nd=0
 | 0,nd,hn,_=>by have:=kRw nd;omega
 | k+1,.mk op names so n m ls,hn,h=>by
  unfold kKk
  unfold kCz at hn
  unfold okF at h
  obtain⟨h1,h2,h3⟩:=h
  have hks:∀(l:List Nd),kBk l≤k→oksF l→kHx kBj l=0:=by
   intro l
   induction l with
   | nil=>intro _ _;unfold kHx;rfl
   | cons a l ih =>
    intro hl hf
    unfold oksF at hf
    simp only [kBk] at hl
    unfold kHx
    have ha:=ok_form k a (by omega) hf.1
    rw [if_neg (by rw [ha];simp)]
    exact ih (by omega) hf.2
  have hal:names.all kBj=true:=List.all_eq_true.2 (fun x hx=>real_ident (h1 x hx))
  have hl:=hks ls (by omega) h3
  have hk:kSw op=false:=by
   unfold kSw
   rcases h2 with h | h | h | h | h | h | h | h | h<;>simp<;>omega
  have hs:kBq op names.length ls.length=false:=by
   unfold kBq hasF
   rcases h2 with⟨h,rfl,rfl,-⟩ | ⟨h,h',hn1,rfl,-⟩ | ⟨rfl,hn1,rfl,-⟩ | ⟨rfl,hn1,rfl,-⟩ | ⟨rfl,hn1,rfl,-⟩ | ⟨rfl,hn1,hn2,rfl,-⟩ | ⟨rfl,rfl,hl1,-⟩ | ⟨h,h',rfl,hl1,-⟩ | ⟨h,h',hn1,hl1,-⟩
   ·rw [if_pos (by omega)];simp
   ·rw [if_neg (by omega),if_pos (by omega)];simp [hn1]
   ·simp [hn1]
   ·simp [hn1]
   ·simp [hn1]
   ·have a1:¬names.length<1:=by omega
    have a2:¬17<names.length:=by omega
    rw [if_neg (by omega),if_neg (by omega),if_neg (by omega),if_pos rfl]
    simp only [a1,a2,decide_false,Bool.or_false,List.length_nil]
    rfl
   ·simp [hl1]
   ·rw [if_neg (by omega),if_neg (by omega),if_neg (by omega),if_neg (by omega),if_neg (by omega),if_pos (by omega)];simp [hl1]
   ·rw [if_neg (by omega),if_neg (by omega),if_neg (by omega),if_neg (by omega),if_neg (by omega),if_neg (by omega)];simp [hn1,hl1]
  have hz:kGj op so n m=false:=by
   unfold kGj
   rcases h2 with h | h | h | h | h | h | h | h | h<;>simp<;>omega
  have hr:kGw op so n m=false:=by
   unfold kGw
   rcases h2 with h | h | h | h | h | h | h | h | h<;>simp<;>omega
  rw [hk,hs,hal,hz,hr]
  simpa using hl
theorem ok_vars:∀(f:List (List UInt8×Int)) (seen:List (List UInt8)),(∀v∈f,Real 1 v.1 0∧0≤v.2∧v.2<4)→(∀v∈f,v.1∉seen)→(f.Pairwise fun a b=>a.1≠b.1)→kYk kBj f seen=0
 | [],_,_,_,_=>rfl
 | v::r,seen,h1,h2,h3=>by
  obtain⟨k1,k2,k3⟩:=h1 v (by simp)
  cases h3 with
  | cons p1 p2 =>
   unfold kYk
   rw [if_neg (by rw [real_ident k1];simp),if_neg (by simp;omega),if_neg (by simpa using h2 v (by simp))]
   refine ok_vars r _ (fun u hu=>h1 u (List.mem_cons_of_mem _ hu)) (fun u hu=>?_) p2
   intro hm
   rcases List.mem_append.1 hm with hm | hm
   ·exact h2 u (List.mem_cons_of_mem _ hu) hm
   ·simp only [List.mem_cons,List.not_mem_nil,or_false] at hm
    exact p1 u hu hm.symm
theorem ok_right {q:Qn} (hv:okV q.free) (hb:okF q.body) (hg:kIz q.body=0):kIj kBj q=0:=by
 unfold kIj
 rw [if_neg (by have:=hv.1;omega),if_neg (by rw [ok_vars q.free [] hv.2.1 (by simp) hv.2.2];simp)]
 unfold kSq
 rw [if_neg (by rw [ok_form _ q.body (Nat.le_refl _) hb];simp)]
 exact hg
theorem lexT_real {s:List UInt8} {ts:List PL.Tok} (h:lexT s=.ok ts):RealL ts:=by
 unfold lexT at h
 split at h
 ·cases h
 ·obtain⟨ts',l',c',rfl,h1,-,-⟩:=lexS_real s 1 1 ts h
  intro t ht hk
  rcases List.mem_append.1 ht with ht | ht
  ·exact h1 t ht
  ·simp only [List.mem_cons,List.not_mem_nil,or_false] at ht
   subst ht
   exact absurd rfl hk
theorem wts_sum (L:List PL.Tok):wts L=(L.map fun t=>t.text.length).sum+L.length:=by
 induction L with
 | nil=>rfl
 | cons t r ih=>simp only [kDw,wt,ih,List.map_cons,List.sum_cons,List.length_cons];omega
theorem parsed_right {s:List UInt8} (hl:s.length≤3000) (he:(kGx kFw s).er=0):kGx kFw s=⟨(kGx kFw s).q,0,0,0⟩∧kYz (kGx kFw s).q:=by
 cases hx:lexT s with
 | error e =>
  obtain⟨a,b,c⟩:=e
  have hr:kGx kFw s=⟨.zero,a,b,c⟩:=by unfold kGx;rw [hx]
  rw [hr] at he
  have:=lexT_err hx
  simp only at he
  omega
 | ok ts =>
  obtain⟨hf,hn,hlen,-,hsum,-⟩:=lexT_fin hx
  obtain⟨q,s',hq,-⟩:=queryP_ok hf hn
  have hr:kGx kFw s=endF ts q s':=by unfold kGx;rw [hx];simp only;rw [hq]
  rw [hr] at he
  obtain⟨h1,hv,hb,hlv,hg⟩:=query_good (lexT_real hx) hq he
  have h2:=pr_len (lexT_real hx) hq he
  have h3:=jn_wts (prQ q) (prQ_ne q)
  have h4:=jn_wts (prT true q.body) (prT_ne true q.body)
  have h5:wts (prT true q.body)≤wts (prQ q):=by unfold prQ;rw [wts_app];omega
  rw [wts_sum ts] at h2
  rw [hr,h1]
  exact⟨rfl,hv,hb,hg,hlv,by simp only;omega,by simp only;omega⟩
theorem parsed_ok {s:List UInt8} (hl:s.length≤3000) (he:(kGx kFw s).er=0):kIj kBj (kGx kFw s).q=0:=by
 have h:=(parsed_right hl he).2
 exact ok_right h.v h.b h.g
theorem parse_to {x:List UInt8} {q:Qn} (hr:kGx kFw x=⟨q,0,0,0⟩) (hl:x.length≤281474976710656) (u:World) (hE:EnvP u):Calls Tryz.prog 39 #[.string ⟨x.toArray⟩] u fun e w'=>∃v,e=.returned (.tuple #[v,.agg #[.int .i64 0,.int .i64 0],.int .i64 0])∧QnV w' (New u) q v∧Upto [] u w' :=
 (parse_calls x hl u hE.1 hE.2.1).mono fun e w' h=>by
  rw [hr] at h
  exact h
theorem print_to {q:Qn} {S:List UInt8} (hS:kTk q=(S,0)) (hr:kIj kBj q=0) {v:Value} {u:World} {P:Nat→Prop} (h:QnV u P q v) (hE:EnvP u):Calls Tryz.prog 43 #[v] u fun e w'=>e=.returned (.tuple #[.string ⟨S.toArray⟩,.int .i64 0])∧Upto [] u w' :=
 (print_right q v u P h hr hE).mono fun e w' h=>by
  rw [hS] at h
  exact h
theorem equalq_to {q:Qn} (hb:okF q.body) (hv:okV q.free) (hg:kIz q.body=0) {v v':Value} {u:World} {P P':Nat→Prop} (h:QnV u P q v) (h':QnV u P' q v'):Calls Tryz.prog 26 #[v,v'] u fun e w'=>e=.returned (.bool true)∧Upto [] u w':=by
 have h1:=(great_lim hg).1
 have h2:=inN.big (by decide) _ (ok_in _ q.body (Nat.le_refl _) hb)
 have h3:=hv.1
 have:=equalq_calls q q P P' v v' u (by omega) (by omega) h2 (by omega) (by omega) h2 h h'
 rwa [(alikeF_eq q q).2 rfl] at this
theorem parse_er (x:List UInt8) (hl:x.length≤281474976710656) (u:World) (hE:EnvP u):Calls Tryz.prog 39 #[.string ⟨x.toArray⟩] u fun e w'=>∃v,e=.returned (.tuple #[v,.agg #[.int .i64 (kGx kFw x).line,.int .i64 (kGx kFw x).col],.int .i64 (kGx kFw x).er])∧QnV w' (New u) (kGx kFw x).q v∧Upto [] u w' :=
 (parse_calls x hl u hE.1 hE.2.1).mono fun _e _w' h=>h
theorem printerReparse_walk (s:List UInt8) (w:World) (hs:s.length≤maxLen) (hE:Env w∧SEnv w∧FEnv w∧PEnv w):Calls Tryz.prog 11 #[.string ⟨s.toArray⟩] w fun e w'=>e=.returned (.bool true)∧Upto [] w w':=by
 have HEE:=Lib.hid (fun u (hu:Upto [] w u)=>EnvP.ext hE hu)
 have HK:Hid (∀u,Upto [] w u→Calls Tryz.prog 42 #[] u fun e w'=>e=.returned (.bool true)∧Upto [] u w'):=Lib.hid (fun u hu=>kTw u (HEE.out u hu))
 have HU1:Hid (Upto [] w w):=Lib.hid (Upto.refl _ _)
 have s0:(ByteArray.mk s.toArray).size=s.length:=rfl
 unfold maxLen at hs
 have sI:(s.length:Int)≤9223372036854775807:=by omega
 by_cases h3:3000<s.length
 ·have h3I:(3000:Int)<s.length:=by omega
  clear h3 hs hE
  go_enter Tryz.func11,Tryz.ntmps11
  go_wp2_with fail
  refine (HK.out _ HU1.out).mono ?_
  rintro e wk ⟨rfl,huk⟩
  have HUK:=Lib.hid (HU1.out.trans_ext huk)
  clear huk
  go_wp2_with fail
  go_ret
  exact⟨rfl,HUK.out⟩
 have h3I:¬(3000:Int)<s.length:=by omega
 by_cases her:(kGx kFw s).er=0
 case neg =>
  obtain⟨r,hr⟩:∃r,kGx kFw s=r:=⟨_,rfl⟩
  have HPE:=Lib.hid (parse_er s (by omega) w hE)
  rw [hr] at HPE her
  obtain⟨qq,li,ci,R⟩:=r
  simp only at HPE her
  have r1:((R:Int)==0)=false:=by rw [beq_eq_false_iff_ne];omega
  have r2:((R:Int) != 0)=true:=by rw [bne,r1];rfl
  clear h3 hs hE her hr
  go_enter Tryz.func11,Tryz.ntmps11
  go_wp2_with fail
  refine (HPE.out).mono ?_
  rintro e w2 ⟨v2,rfl,hq2,hu2⟩
  obtain⟨x1,x2,x3,xo,xa1,xa2,xa3,xs,xn,xm,xl1,xl2,xl3,rfl⟩:=hq2.seven
  clear hq2
  have ua2:Upto [] w2 ((w2.alloc (.cells #[.slice x1 x2 x3,.int .i64 xo,.slice xa1 xa2 xa3,.int .i64 xs,.int .i64 xn,.int .i64 xm,.slice xl1 xl2 xl3] 48)).alloc (.cells #[.int .i64 li,.int .i64 ci] 36)):=(((Upto.refl [] w2).alloc _).alloc _)
  have HU2:=Lib.hid ((HU1.out.trans_ext hu2).trans_ext ua2)
  have HG2:=Lib.hid ua2
  clear hu2 ua2
  go_wp2_with fail
  refine (HK.out _ HU2.out).mono ?_
  rintro e wk ⟨rfl,huk⟩
  have HUK:=Lib.hid (HU2.out.trans_ext huk)
  clear huk
  go_wp2_with fail
  go_ret
  exact⟨rfl,HUK.out⟩
 obtain⟨k1,gq⟩:=parsed_right (by omega) her
 have rq:=parsed_ok (by omega) her
 generalize (kGx kFw s).q=q at *
 have HRQ:=Lib.hid k1
 have HRR:=Lib.hid rq
 have HPR:=Lib.hid (gq.print rq)
 have HRD:=Lib.hid gq.read
 have HOK:=Lib.hid (And.intro gq.v (And.intro gq.b gq.g))
 have HLN:Hid (s.length≤281474976710656∧(jn (prQ q)).length≤281474976710656):=Lib.hid ⟨by omega,by have:=gq.len;omega⟩
 clear h3 hs hE her k1 gq rq
 generalize jn (prQ q)=S at *
 go_enter Tryz.func11,Tryz.ntmps11
 go_wp2_with fail
 refine (parse_to HRQ.out HLN.out.1 _ (HEE.out _ HU1.out)).mono ?_
 rintro e w2 ⟨v2,rfl,hq2,hu2⟩
 have hq2b:=QnV.keep (Keep.mono (fun b _ _=>(trivial:AnyB b))) hq2
 obtain⟨x1,x2,x3,xo,xa1,xa2,xa3,xs,xn,xm,xl1,xl2,xl3,rfl⟩:=hq2.seven
 have HQ2:=Lib.hid hq2b
 clear hq2 hq2b
 have ua2:Upto [] w2 ((w2.alloc (.cells #[.slice x1 x2 x3,.int .i64 xo,.slice xa1 xa2 xa3,.int .i64 xs,.int .i64 xn,.int .i64 xm,.slice xl1 xl2 xl3] 48)).alloc (.cells #[.int .i64 0,.int .i64 0] 36)):=(((Upto.refl [] w2).alloc _).alloc _)
 have HU2:=Lib.hid ((HU1.out.trans_ext hu2).trans_ext ua2)
 have HG2:=Lib.hid ua2
 have HX2:Hid (((w2.alloc (.cells #[.slice x1 x2 x3,.int .i64 xo,.slice xa1 xa2 xa3,.int .i64 xs,.int .i64 xn,.int .i64 xm,.slice xl1 xl2 xl3] 48)).alloc (.cells #[.int .i64 0,.int .i64 0] 36)).heap[w2.heap.size]?=some (.cells #[.slice x1 x2 x3,.int .i64 xo,.slice xa1 xa2 xa3,.int .i64 xs,.int .i64 xn,.int .i64 xm,.slice xl1 xl2 xl3] 48 (0,0))):=Lib.hid (kCx (kAq w2 _) _)
 have hx2:=HX2.out
 obtain⟨x0,x1,x2,x3,x4,x5,x6⟩:=kBw hx2
 clear hx2
 clear hu2 ua2
 go_wp2_with fail
 have HAX:=Lib.hid (QnV.keep (Keep.upto HG2.out (by simp)) HQ2.out)
 refine (print_to HPR.out HRR.out HAX.out (HEE.out _ HU2.out)).mono ?_
 rintro e w3 ⟨rfl,hu3⟩
 have HU3:=Lib.hid (HU2.out.trans_ext hu3)
 have HV3:=Lib.hid hu3
 have HX3:=Lib.hid (hu3.at HX2.out (by simp))
 clear x0 x1 x2 x3 x4 x5 x6
 clear hu3
 go_wp2_with fail
 refine (parse_to HRD.out HLN.out.2 _ (HEE.out _ HU3.out)).mono ?_
 rintro e w4 ⟨v4,rfl,hq4,hu4⟩
 have hq4b:=QnV.keep (Keep.mono (fun b _ _=>(trivial:AnyB b))) hq4
 obtain⟨y1,y2,y3,yo,ya1,ya2,ya3,ys,yn,ym,yl1,yl2,yl3,rfl⟩:=hq4.seven
 have HQ4:=Lib.hid hq4b
 clear hq4 hq4b
 have ua4:Upto [] w4 ((w4.alloc (.cells #[.slice y1 y2 y3,.int .i64 yo,.slice ya1 ya2 ya3,.int .i64 ys,.int .i64 yn,.int .i64 ym,.slice yl1 yl2 yl3] 48)).alloc (.cells #[.int .i64 0,.int .i64 0] 36)):=(((Upto.refl [] w4).alloc _).alloc _)
 have HU4:=Lib.hid ((HU3.out.trans_ext hu4).trans_ext ua4)
 have HG4:=Lib.hid ua4
 have HE4:=Lib.hid (hu4.trans_ext ua4)
 have HX4:=Lib.hid ((hu4.trans_ext ua4).at HX3.out (by simp))
 have HY4:Hid (((w4.alloc (.cells #[.slice y1 y2 y3,.int .i64 yo,.slice ya1 ya2 ya3,.int .i64 ys,.int .i64 yn,.int .i64 ym,.slice yl1 yl2 yl3] 48)).alloc (.cells #[.int .i64 0,.int .i64 0] 36)).heap[w4.heap.size]?=some (.cells #[.slice y1 y2 y3,.int .i64 yo,.slice ya1 ya2 ya3,.int .i64 ys,.int .i64 yn,.int .i64 ym,.slice yl1 yl2 yl3] 48 (0,0))):=Lib.hid (kCx (kAq w4 _) _)
 have hy4:=HY4.out
 obtain⟨y0,y1,y2,y3,y4,y5,y6⟩:=kBw hy4
 clear hy4
 clear hu4 ua4
 go_wp2_with fail
 have HAY:=Lib.hid (QnV.keep (Keep.upto HG4.out (by simp)) HQ4.out)
 refine (print_to HPR.out HRR.out HAY.out (HEE.out _ HU4.out)).mono ?_
 rintro e w5 ⟨rfl,hu5⟩
 have HU5:=Lib.hid (HU4.out.trans_ext hu5)
 have HV5:=Lib.hid hu5
 have HX5:=Lib.hid (hu5.at HX4.out (by simp))
 have HY5:=Lib.hid (hu5.at HY4.out (by simp))
 clear y0 y1 y2 y3 y4 y5 y6
 have hx5:=HX5.out
 obtain⟨x0,x1,x2,x3,x4,x5,x6⟩:=kBw hx5
 clear hx5
 have hy5:=HY5.out
 obtain⟨y0,y1,y2,y3,y4,y5,y6⟩:=kBw hy5
 clear hy5
 clear hu5
 go_wp2_with fail
 have HEX:=Lib.hid (QnV.keep (Keep.upto (((HG2.out.trans_ext HV3.out).trans_ext HE4.out).trans_ext HV5.out) (by simp)) HQ2.out)
 have HEY:=Lib.hid (QnV.keep (Keep.upto (HG4.out.trans_ext HV5.out) (by simp)) HQ4.out)
 refine (equalq_to HOK.out.2.1 HOK.out.1 HOK.out.2.2 HEX.out HEY.out).mono ?_
 rintro e w6 ⟨rfl,hu6⟩
 have HU6:=Lib.hid (HU5.out.trans_ext hu6)
 have HX6:=Lib.hid (hu6.at HX5.out (by simp))
 have HY6:=Lib.hid (hu6.at HY5.out (by simp))
 clear x0 x1 x2 x3 x4 x5 x6 y0 y1 y2 y3 y4 y5 y6
 clear hu6
 go_wp2_with fail
 refine (HK.out _ HU6.out).mono ?_
 rintro e wk ⟨rfl,huk⟩
 have HUK:=Lib.hid (HU6.out.trans_ext huk)
 clear huk
 go_wp2_with fail
 go_ret
 exact⟨rfl,HUK.out⟩
end Go.Proofs.YtkhbpebpljdifaaGreatDoor
