/- Merged texts. -/
import Derived.Test.YtkhbpebpljdifaaGreatDoorMPrnC
set_option maxRecDepth 100000
set_option maxHeartbeats 25600000
namespace Go.Proofs.YtkhbpebpljdifaaGreatDoor
open Go.RowKit Go.PL Go.Maps
theorem asked_lim {q:Qn} (h:kVx q=true):kNw q.body≤60∧kCz q.body≤300:=by
 unfold kVx fewF at h
 simp only [Bool.and_eq_true,decide_eq_true_eq] at h
 exact h.1.2.1
theorem right_q {q:Qn} (ha:kVx q=true) (hr:kIj kBj q=0):kYz q:=by
 obtain⟨hv,hb,hg⟩:=right_ok (fun x h=>kXz h) hr
 obtain⟨h1,h2⟩:=asked_lim ha
 have h3:=lv_le _ q.body (Nat.le_refl _) true
 have h4:=quest_len hv hb
 have h5:=jn_len hb true
 exact⟨hv,hb,hg,by omega,by omega,by omega⟩
theorem kYz.print {q:Qn} (h:kYz q) (hr:kIj kBj q=0):kTk q=(jn (prQ q),0):=by
 unfold kTk
 rw [if_pos hr,cutP_short h.len]
theorem joinF_alike:∀(L ts:List PL.Tok),AllT L→(∀t∈L,t.text.length≤65536)→Alike (L++[⟨0,[],0,0,0⟩]) ts→joinF (ts.map ofTok)=some (txs L)
 | [],ts,_,_,h=>by
  have hl:=al_len h
  match ts,hl with
  | [t],_ =>
   simp only [Alike,List.nil_append,List.map_cons,List.map_nil,List.cons.injEq,and_true,PL.Tok.key,Prod.mk.injEq] at h
   exact joinF_eof ⟨by simp [ofTok,←h.1],by simp [ofTok,←h.2.1],by simp [ofTok,←h.2.2]⟩
 | u::L,ts,hR,hl,h=>by
  have hlen:=al_len h
  match ts,hlen with
  | t::ts,_ =>
   simp only [Alike,List.cons_append,List.map_cons,List.cons.injEq,PL.Tok.key,Prod.mk.injEq] at h
   obtain⟨⟨k1,k2,k3⟩,h2⟩:=h
   have hr:=hR u (by simp)
   have hlu:=hl u (by simp)
   unfold RealT at hr
   rw [k1,k2,k3] at hr
   rw [k2] at hlu
   have g1:goodI (ofTok t):=⟨t.kind,t.val,oneF_real.2 ⟨hlu,hr⟩,rfl,rfl⟩
   have g2:¬eofI (ofTok t):=fun he=>hr.ne he.2.1
   rw [List.map_cons,joinF_good (fun h=>g2 h.2) g1,joinF_alike L ts (fun t h'=>hR t (by simp [h'])) (fun t h'=>hl t (by simp [h'])) h2,txs_cons,k2]
   rfl
theorem wt_mem {t:PL.Tok}:∀{L:List PL.Tok},t∈L→wt t≤wts L
 | u::L,h=>by
  rw [kDw]
  rcases List.mem_cons.1 h with rfl | h
  ·omega
  ·have:=wt_mem h;omega
theorem prQ_ne (q:Qn):prQ q≠[]:=by
 unfold prQ
 intro h
 exact prT_ne true q.body (List.append_eq_nil_iff.1 h).2
theorem kYz.toks {q:Qn} (h:kYz q):∃ts,lexT (jn (prQ q))=.ok ts∧joinF (ts.map ofTok)=some (txs (prQ q))∧ts.length≤65540∧(∀t∈ts,t.text.length≤65540)∧Alike (prQ q++[⟨0,[],0,0,0⟩]) ts:=by
 obtain⟨ts,h1,h2⟩:=jn_lex (prQ_real h.v h.b) h.len
 have hw:=jn_wts (prQ q) (prQ_ne q)
 have hn:=len_wts (prQ q)
 have hlen:=h.len
 have hm:∀t∈prQ q,t.text.length≤65536:=fun t ht=>by
  have:=wt_mem ht
  unfold wt at this
  omega
 refine⟨ts,h1,joinF_alike _ _ (prQ_real h.v h.b) hm h2,?_,?_,h2⟩
 ·have:=al_len h2
  simp only [List.length_append,List.length_cons,List.length_nil] at this
  omega
 ·intro t ht
  have hk:t.key∈(prQ q++[(⟨0,[],0,0,0⟩:PL.Tok)]).map PL.Tok.key:=by
   rw [show (prQ q++[(⟨0,[],0,0,0⟩:PL.Tok)]).map PL.Tok.key=ts.map PL.Tok.key from h2]
   exact List.mem_map_of_mem ht
  obtain⟨u,hu,he⟩:=List.mem_map.1 hk
  have:u.text=t.text:=congrArg (fun p=>p.2.1) he
  rw [←this]
  rcases List.mem_append.1 hu with hu | hu
  ·have:=hm u hu;omega
  ·simp only [List.mem_cons,List.not_mem_nil,or_false] at hu
   subst hu
   simp
theorem print_to {q:Qn} {S:List UInt8} (hS:kTk q=(S,0)) (hr:kIj kBj q=0) {v:Value} {u:World} {P:Nat→Prop} (h:QnV u P q v) (hE:EnvP u):Calls Tryz.prog 43 #[v] u fun e w'=>e=.returned (.tuple #[.string ⟨S.toArray⟩,.int .i64 0])∧Upto [] u w' :=
 (print_right q v u P h hr hE).mono fun e w' h=>by
  rw [hS] at h
  exact h
theorem print_er {q:Qn} {R:Nat} (hS:kTk q=([],R)) {v:Value} {u:World} {P:Nat→Prop} (h:QnV u P q v) (hk:kCz q.body≤10000000) (hin:inN 10000000 q.body) (hfn:∀y∈q.free,y.1.length≤10000000) (hE:EnvP u):Calls Tryz.prog 43 #[v] u fun e w'=>e=.returned (.tuple #[.string ⟨#[]⟩,.int .i64 (R:Int)])∧Upto [] u w' :=
 (print_calls q v u P h hk hin hfn hE).mono fun e w' h=>by
  rw [hS] at h
  exact h
theorem joinR_at {l:List ITok} {xs:List (List UInt8)} {e:Ending} {u w':World} (hj:joinF l=some xs) (h:JoinR l e∧Upto [] u w'):e=.returned (.tuple #[.string ⟨(Lib.join xs [32]).toArray⟩,.int .i64 0])∧Upto [] u w':=by
 refine⟨?_,h.2⟩
 rcases h.1 with⟨l,h1,h2⟩ | ⟨h1,h2⟩
 ·rw [hj] at h1;cases h1;exact h2
 ·rw [hj] at h1;cases h1
theorem join_to {ts:List PL.Tok} {xs:List (List UInt8)} (hj:joinF (ts.map ofTok)=some xs) (hn:ts.length≤100000) (hm:∀t∈ts,t.text.length≤100000) {v:Value} {u:World} (h:Toks u v ts) (hE:EnvP u):Calls Tryz.prog 49 #[v] u fun e w'=>e=.returned (.tuple #[.string ⟨(Lib.join xs [32]).toArray⟩,.int .i64 0])∧Upto [] u w' :=
 (join_calls (ts.map ofTok) v u (Toks.I h) hE.1 (by rw [List.length_map];exact hn) (by
  intro t ht
  obtain⟨t',ht',rfl⟩:=List.mem_map.1 ht
  exact hm t' ht')).mono fun e w' h=>joinR_at hj h
theorem printerTokens_walk (q:Qn) (v:Value) (w:World) (hq:ArgQ w q v) (hE:Env w∧SEnv w∧FEnv w∧PEnv w):Calls Tryz.prog 10 #[v] w fun e w'=>e=.returned (.bool true)∧Upto [] w w':=by
 have hf:=hq.facts
 have HEE:=Lib.hid (fun u (hu:Upto [] w u)=>EnvP.ext hE hu)
 have HK:Hid (∀u,Upto [] w u→Calls Tryz.prog 42 #[] u fun e w'=>e=.returned (.bool true)∧Upto [] u w'):=Lib.hid (fun u hu=>kTw u (HEE.out u hu))
 have HAS:=Lib.hid (fun u (hu:Upto [] w u)=>kVw q v u AnyB (hf.ext hu).val hf.sz hf.big hf.fl hf.fn)
 have HRT:=Lib.hid (fun u (hu:Upto [] w u)=>kTx q v u AnyB (hf.ext hu).val hf.sz hf.ins hf.fn)
 have HOF:=Lib.hid (fun u (hu:Upto [] w u)=>ofq_calls q v u AnyB (hf.ext hu).val hf.sz hf.big hf.fl)
 have HSZ:=Lib.hid (And.intro hf.sz (And.intro hf.ins hf.fn))
 obtain⟨f1,f3,o1,a1,a2,a3,s1,n1,m1,l1,l2,l3,rfl,-,-⟩:=hf.val.open
 obtain⟨L,hL⟩:∃L,q.free.length=L:=⟨_,rfl⟩
 rw [hL] at HAS HRT HOF ⊢
 have HU1:Hid (Upto [] w (w.alloc (.cells #[.slice f1 L f3,.int .i64 o1,.slice a1 a2 a3,.int .i64 s1,.int .i64 n1,.int .i64 m1,.slice l1 l2 l3] 45))):=Lib.hid ((Upto.refl [] w).alloc _)
 have HB1:Hid ((w.alloc (.cells #[.slice f1 L f3,.int .i64 o1,.slice a1 a2 a3,.int .i64 s1,.int .i64 n1,.int .i64 m1,.slice l1 l2 l3] 45)).heap[w.heap.size]?=some (.cells #[.slice f1 L f3,.int .i64 o1,.slice a1 a2 a3,.int .i64 s1,.int .i64 n1,.int .i64 m1,.slice l1 l2 l3] 45 (0,0))):=Lib.hid (kAq w _)
 have c1:∀b:Bool,b=true∨b=false:=fun b=>by cases b<;>simp
 clear hq hf hE hL
 rcases c1 (kVx q) with aq | aq
 case inr =>
  rw [aq] at HAS
  clear aq
  have hp1:=HB1.out
  obtain⟨p0,p1,p2,p3,p4,p5,p6⟩:=kBw hp1
  clear hp1
  go_enter Tryz.func10,Tryz.ntmps10
  go_wp2_with fail
  refine (HAS.out _ HU1.out).mono ?_
  rintro e w2 ⟨rfl,hu2⟩
  have HU2:=Lib.hid (HU1.out.trans_ext hu2)
  have HB2:=Lib.hid (hu2.at HB1.out (by simp))
  clear p0 p1 p2 p3 p4 p5 p6
  clear hu2
  go_wp2_with fail
  refine (HK.out _ HU2.out).mono ?_
  rintro e wk ⟨rfl,huk⟩
  have HUK:=Lib.hid (HU2.out.trans_ext huk)
  clear huk
  go_wp2_with fail
  go_ret
  exact⟨rfl,HUK.out⟩
 rw [aq] at HAS
 by_cases rq:kIj kBj q=0
 case neg =>
  obtain⟨R,hR⟩:∃R,kIj kBj q=R:=⟨_,rfl⟩
  have HPR:Hid (kTk q=([],R)):=Lib.hid (by unfold kTk;rw [if_neg rq,hR])
  rw [hR] at rq
  have r1:((R:Int)==0)=false:=by rw [beq_eq_false_iff_ne];omega
  have r2:((R:Int) != 0)=true:=by rw [bne,r1];rfl
  clear aq hR rq
  have hp1:=HB1.out
  obtain⟨p0,p1,p2,p3,p4,p5,p6⟩:=kBw hp1
  clear hp1
  go_enter Tryz.func10,Tryz.ntmps10
  go_wp2_with fail
  refine (HAS.out _ HU1.out).mono ?_
  rintro e w2 ⟨rfl,hu2⟩
  have HU2:=Lib.hid (HU1.out.trans_ext hu2)
  have HB2:=Lib.hid (hu2.at HB1.out (by simp))
  clear p0 p1 p2 p3 p4 p5 p6
  have hp2:=HB2.out
  obtain⟨p0,p1,p2,p3,p4,p5,p6⟩:=kBw hp2
  clear hp2
  clear hu2
  go_wp2_with fail
  refine (HOF.out _ HU2.out).mono ?_
  rintro e w3 ⟨v3,rfl,hq3,hu3⟩
  have HU3:=Lib.hid (HU2.out.trans_ext hu3)
  have HB3:=Lib.hid (hu3.at HB2.out (by simp))
  have HQ3:=Lib.hid hq3
  obtain⟨z1,z3,zo,za1,za2,za3,zs,zn,zm,zl1,zl2,zl3,rfl,-,-⟩:=hq3.open
  clear hq3
  clear p0 p1 p2 p3 p4 p5 p6
  clear hu3
  go_wp2_with fail
  refine (print_er HPR.out HQ3.out HSZ.out.1 HSZ.out.2.1 HSZ.out.2.2 (HEE.out _ HU3.out)).mono ?_
  rintro e w4 ⟨rfl,hu4⟩
  have HU4:=Lib.hid (HU3.out.trans_ext hu4)
  have HB4:=Lib.hid (hu4.at HB3.out (by simp))
  clear hu4
  go_wp2_with fail
  refine (HK.out _ HU4.out).mono ?_
  rintro e wk ⟨rfl,huk⟩
  have HUK:=Lib.hid (HU4.out.trans_ext huk)
  clear huk
  go_wp2_with fail
  go_ret
  exact⟨rfl,HUK.out⟩
 have gq:=right_q aq rq
 have HRR:=Lib.hid rq
 have HPR:=Lib.hid (gq.print rq)
 obtain⟨ts,k1,k2,k3,k4,-⟩:=gq.toks
 have HTK:=Lib.hid (tok_ok k1 (by have:=gq.len;omega))
 have HJN:=Lib.hid (fun vv u (h:Toks u vv ts) (hE:EnvP u)=>by
  have:=join_to k2 (by omega) (fun t ht=>by have:=k4 t ht;omega) h hE
  rwa [jn_txs] at this)
 clear aq rq gq k1 k2 k3 k4
 generalize jn (prQ q)=S at *
 have hp1:=HB1.out
 obtain⟨p0,p1,p2,p3,p4,p5,p6⟩:=kBw hp1
 clear hp1
 go_enter Tryz.func10,Tryz.ntmps10
 go_wp2_with fail
 refine (HAS.out _ HU1.out).mono ?_
 rintro e w2 ⟨rfl,hu2⟩
 have HU2:=Lib.hid (HU1.out.trans_ext hu2)
 have HB2:=Lib.hid (hu2.at HB1.out (by simp))
 clear p0 p1 p2 p3 p4 p5 p6
 have hp2:=HB2.out
 obtain⟨p0,p1,p2,p3,p4,p5,p6⟩:=kBw hp2
 clear hp2
 clear hu2
 go_wp2_with fail
 refine (HOF.out _ HU2.out).mono ?_
 rintro e w3 ⟨v3,rfl,hq3,hu3⟩
 have HU3:=Lib.hid (HU2.out.trans_ext hu3)
 have HB3:=Lib.hid (hu3.at HB2.out (by simp))
 have HQ3:=Lib.hid hq3
 obtain⟨z1,z3,zo,za1,za2,za3,zs,zn,zm,zl1,zl2,zl3,rfl,-,-⟩:=hq3.open
 clear hq3
 clear p0 p1 p2 p3 p4 p5 p6
 clear hu3
 go_wp2_with fail
 refine (print_to HPR.out HRR.out HQ3.out (HEE.out _ HU3.out)).mono ?_
 rintro e w4 ⟨rfl,hu4⟩
 have HU4:=Lib.hid (HU3.out.trans_ext hu4)
 have HB4:=Lib.hid (hu4.at HB3.out (by simp))
 clear hu4
 go_wp2_with fail
 refine (HTK.out _ (HEE.out _ HU4.out).1).mono ?_
 rintro e w5 ⟨v5,rfl,hv5,hu5⟩
 have HV5:=Lib.hid (hv5.ext ((Upto.refl [] w5).alloc (.cells #[.int .i64 0,.int .i64 0] 36)))
 clear hv5
 have ua5:Upto [] w5 (w5.alloc (.cells #[.int .i64 0,.int .i64 0] 36)):=((Upto.refl [] w5).alloc _)
 have HU5:=Lib.hid ((HU4.out.trans_ext hu5).trans_ext ua5)
 have HG5:=Lib.hid ua5
 have HB5:=Lib.hid ((hu5.trans_ext ua5).at HB4.out (by simp))
 clear hu5 ua5
 go_wp2_with fail
 refine (HJN.out _ _ HV5.out (HEE.out _ HU5.out)).mono ?_
 rintro e w6 ⟨rfl,hu6⟩
 have HU6:=Lib.hid (HU5.out.trans_ext hu6)
 have HB6:=Lib.hid (hu6.at HB5.out (by simp))
 clear hu6
 go_wp2_with fail
 refine (HK.out _ HU6.out).mono ?_
 rintro e wk ⟨rfl,huk⟩
 have HUK:=Lib.hid (HU6.out.trans_ext huk)
 clear huk
 go_wp2_with fail
 go_ret
 exact⟨rfl,HUK.out⟩
end Go.Proofs.YtkhbpebpljdifaaGreatDoor
