/- Merged texts. -/
import Derived.Test.YtkhbpebpljdifaaGreatDoorMPrnF
set_option maxRecDepth 100000
set_option maxHeartbeats 25600000
namespace Go.Proofs.YtkhbpebpljdifaaGreatDoor
open Go.RowKit Go.PL Go.Maps
theorem asked_lim {q:Qn} (h:kVx q=true):kNw q.body≤60∧kCz q.body≤300:=by
 unfold kVx fewF at h
 simp only [Bool.and_eq_true,decide_eq_true_eq] at h
 exact h.1.2.1
theorem right_q {q:Qn} (ha:kVx q=true) (hr:kIj kBj q=0):kYz q:=by
 obtain⟨hv,hb,hg⟩:=right_ok (fun x h=>kXz h) hr
 obtain⟨h1,h2⟩:=asked_lim ha
 have h3:=lv_le _ q.body (Nat.le_refl _) true
 have h4:=quest_len hv hb
 have h5:=jn_len hb true
 exact⟨hv,hb,hg,by omega,by omega,by omega⟩
theorem kYz.print {q:Qn} (h:kYz q) (hr:kIj kBj q=0):kTk q=(jn (prQ q),0):=by
 unfold kTk
 rw [if_pos hr,cutP_short h.len]
theorem joinF_alike:∀(L ts:List PL.Tok),AllT L→(∀t∈L,t.text.length≤65536)→Alike (L++[⟨0,[],0,0,0⟩]) ts→joinF (ts.map ofTok)=some (txs L)
 | [],ts,_,_,h=>by
  have hl:=al_len h
  match ts,hl with
  | [t],_ =>
   simp only [Alike,List.nil_append,List.map_cons,List.map_nil,List.cons.injEq,and_true,PL.Tok.key,Prod.mk.injEq] at h
   exact joinF_eof ⟨by simp [ofTok,←h.1],by simp [ofTok,←h.2.1],by simp [ofTok,←h.2.2]⟩
 | u::L,ts,hR,hl,h=>by
  have hlen:=al_len h
  match ts,hlen with
  | t::ts,_ =>
   simp only [Alike,List.cons_append,List.map_cons,List.cons.injEq,PL.Tok.key,Prod.mk.injEq] at h
   obtain⟨⟨k1,k2,k3⟩,h2⟩:=h
   have hr:=hR u (by simp)
   have hlu:=hl u (by simp)
   unfold RealT at hr
   rw [k1,k2,k3] at hr
   rw [k2] at hlu
   have g1:goodI (ofTok t):=⟨t.kind,t.val,oneF_real.2 ⟨hlu,hr⟩,rfl,rfl⟩
   have g2:¬eofI (ofTok t):=fun he=>hr.ne he.2.1
   rw [List.map_cons,joinF_good (fun h=>g2 h.2) g1,joinF_alike L ts (fun t h'=>hR t (by simp [h'])) (fun t h'=>hl t (by simp [h'])) h2,txs_cons,k2]
   rfl
theorem wt_mem {t:PL.Tok}:∀{L:List PL.Tok},t∈L→wt t≤wts L
 | u::L,h=>by
  rw [kDw]
  rcases List.mem_cons.1 h with rfl | h
  ·omega
  ·have:=wt_mem h;omega
theorem prQ_ne (q:Qn):prQ q≠[]:=by
 unfold prQ
 intro h
 exact prT_ne true q.body (List.append_eq_nil_iff.1 h).2
theorem kYz.toks {q:Qn} (h:kYz q):∃ts,lexT (jn (prQ q))=.ok ts∧joinF (ts.map ofTok)=some (txs (prQ q))∧ts.length≤65540∧(∀t∈ts,t.text.length≤65540)∧Alike (prQ q++[⟨0,[],0,0,0⟩]) ts:=by
 obtain⟨ts,h1,h2⟩:=jn_lex (prQ_real h.v h.b) h.len
 have hw:=jn_wts (prQ q) (prQ_ne q)
 have hn:=len_wts (prQ q)
 have hlen:=h.len
 have hm:∀t∈prQ q,t.text.length≤65536:=fun t ht=>by
  have:=wt_mem ht
  unfold wt at this
  omega
 refine⟨ts,h1,joinF_alike _ _ (prQ_real h.v h.b) hm h2,?_,?_,h2⟩
 ·have:=al_len h2
  simp only [List.length_append,List.length_cons,List.length_nil] at this
  omega
 ·intro t ht
  have hk:t.key∈(prQ q++[(⟨0,[],0,0,0⟩:PL.Tok)]).map PL.Tok.key:=by
   rw [show (prQ q++[(⟨0,[],0,0,0⟩:PL.Tok)]).map PL.Tok.key=ts.map PL.Tok.key from h2]
   exact List.mem_map_of_mem ht
  obtain⟨u,hu,he⟩:=List.mem_map.1 hk
  have:u.text=t.text:=congrArg (fun p=>p.2.1) he
  rw [←this]
  rcases List.mem_append.1 hu with hu | hu
  ·have:=hm u hu;omega
  ·simp only [List.mem_cons,List.not_mem_nil,or_false] at hu
   subst hu
   simp
theorem lexT_real {s:List UInt8} {ts:List PL.Tok} (h:lexT s=.ok ts):RealL ts:=by
 unfold lexT at h
 split at h
 ·cases h
 ·obtain⟨ts',l',c',rfl,h1,-,-⟩:=lexS_real s 1 1 ts h
  intro t ht hk
  rcases List.mem_append.1 ht with ht | ht
  ·exact h1 t ht
  ·simp only [List.mem_cons,List.not_mem_nil,or_false] at ht
   subst ht
   exact absurd rfl hk
theorem parsed_val {s:List UInt8} (he:(kGx kFw s).er=0):okV (kGx kFw s).q.free∧okF (kGx kFw s).q.body∧kIz (kGx kFw s).q.body=0:=by
 cases hx:lexT s with
 | error e =>
  obtain⟨a,b,c⟩:=e
  have hr:kGx kFw s=⟨.zero,a,b,c⟩:=by unfold kGx;rw [hx]
  rw [hr] at he
  have:=lexT_err hx
  simp only at he
  omega
 | ok ts =>
  obtain⟨hf,hn,hlen,-,hsum,-⟩:=lexT_fin hx
  obtain⟨q,s',hq,-⟩:=queryP_ok hf hn
  have hr:kGx kFw s=endF ts q s':=by unfold kGx;rw [hx];simp only;rw [hq]
  rw [hr] at he
  obtain⟨h1,hv,hb,hlv,hg⟩:=query_good (lexT_real hx) hq he
  rw [hr,h1]
  exact⟨hv,hb,hg⟩
theorem print_to {q:Qn} {S:List UInt8} (hS:kTk q=(S,0)) (hr:kIj kBj q=0) {v:Value} {u:World} {P:Nat→Prop} (h:QnV u P q v) (hE:EnvP u):Calls Tryz.prog 43 #[v] u fun e w'=>e=.returned (.tuple #[.string ⟨S.toArray⟩,.int .i64 0])∧Upto [] u w' :=
 (print_right q v u P h hr hE).mono fun e w' h=>by
  rw [hS] at h
  exact h
theorem equalq_ne {q q':Qn} (hb:okF q.body) (hv:okV q.free) (hg:kIz q.body=0) (hb':okF q'.body) (hv':okV q'.free) (hg':kIz q'.body=0) (hne:q≠q') {v v':Value} {u:World} {P P':Nat→Prop} (h:QnV u P q v) (h':QnV u P' q' v'):Calls Tryz.prog 26 #[v,v'] u fun e w'=>e=.returned (.bool false)∧Upto [] u w':=by
 have h1:=(great_lim hg).1
 have h2:=inN.big (by decide) _ (ok_in _ q.body (Nat.le_refl _) hb)
 have h3:=hv.1
 have k1:=(great_lim hg').1
 have k2:=inN.big (by decide) _ (ok_in _ q'.body (Nat.le_refl _) hb')
 have k3:=hv'.1
 have:=equalq_calls q q' P P' v v' u (by omega) (by omega) h2 (by omega) (by omega) k2 h h'
 have ha:kYx q q'=false:=by
  rw [Bool.eq_false_iff]
  exact fun h=>hne ((alikeF_eq q q').1 h)
 rwa [ha] at this
theorem parse_er (x:List UInt8) (hl:x.length≤281474976710656) (u:World) (hE:EnvP u):Calls Tryz.prog 39 #[.string ⟨x.toArray⟩] u fun e w'=>∃v,e=.returned (.tuple #[v,.agg #[.int .i64 (kGx kFw x).line,.int .i64 (kGx kFw x).col],.int .i64 (kGx kFw x).er])∧QnV w' (New u) (kGx kFw x).q v∧Upto [] u w' :=
 (parse_calls x hl u hE.1 hE.2.1).mono fun _e _w' h=>h
theorem joinR_at {l:List ITok} {xs:List (List UInt8)} {e:Ending} {u w':World} (hj:joinF l=some xs) (h:JoinR l e∧Upto [] u w'):e=.returned (.tuple #[.string ⟨(Lib.join xs [32]).toArray⟩,.int .i64 0])∧Upto [] u w':=by
 refine⟨?_,h.2⟩
 rcases h.1 with⟨l,h1,h2⟩ | ⟨h1,h2⟩
 ·rw [hj] at h1;cases h1;exact h2
 ·rw [hj] at h1;cases h1
theorem join_to {ts:List PL.Tok} {xs:List (List UInt8)} (hj:joinF (ts.map ofTok)=some xs) (hn:ts.length≤100000) (hm:∀t∈ts,t.text.length≤100000) {v:Value} {u:World} (h:Toks u v ts) (hE:EnvP u):Calls Tryz.prog 49 #[v] u fun e w'=>e=.returned (.tuple #[.string ⟨(Lib.join xs [32]).toArray⟩,.int .i64 0])∧Upto [] u w' :=
 (join_calls (ts.map ofTok) v u (Toks.I h) hE.1 (by rw [List.length_map];exact hn) (by
  intro t ht
  obtain⟨t',ht',rfl⟩:=List.mem_map.1 ht
  exact hm t' ht')).mono fun e w' h=>joinR_at hj h
def dp (t:PL.Tok):Int:=if t.text=[40] then 1 else if t.text=[41] then -1 else 0
def bal (L:List PL.Tok):Int:=(L.map dp).sum
theorem bal_nil:bal []=0:=rfl
theorem bal_cons (t:PL.Tok) (L:List PL.Tok):bal (t::L)=dp t+bal L:=by simp [bal]
theorem bal_app (a b:List PL.Tok):bal (a++b)=bal a+bal b:=by simp [bal]
structure Dy (L:List PL.Tok):Prop where
 all:bal L=0
 pre:∀k,0≤bal (L.take k)
theorem Dy.nil:Dy []:=⟨rfl,fun k=>by simp [bal]⟩
theorem Dy.app {a b:List PL.Tok} (ha:Dy a) (hb:Dy b):Dy (a++b):=⟨by rw [bal_app,ha.all,hb.all];rfl,fun k=>by
 rw [List.take_append,bal_app]
 have h1:=ha.pre k
 have h2:=hb.pre (k-a.length)
 omega⟩
theorem Dy.one {t:PL.Tok} (h:dp t=0):Dy [t]:=⟨by rw [bal_cons,h];rfl,fun k=>by
 cases k with
 | zero=>simp [bal]
 | succ k=>rw [List.take_succ_cons,bal_cons,h];simp [bal]⟩
theorem Dy.cons {t:PL.Tok} {L:List PL.Tok} (h:dp t=0) (hL:Dy L):Dy (t::L):=(Dy.one h).app hL
theorem Dy.wrap {L:List PL.Tok} (h:Dy L):Dy (puT 40::(L++[puT 41])):=by
 have h1:dp (puT 40)=1:=rfl
 have h2:dp (puT 41)=-1:=rfl
 refine⟨by rw [bal_cons,bal_app,bal_cons,bal_nil,h.all,h1,h2];rfl,fun k=>?_⟩
 cases k with
 | zero=>simp [bal]
 | succ k =>
  rw [List.take_succ_cons,bal_cons,List.take_append,bal_app,h1]
  have h3:=h.pre k
  have h4:-1≤bal ([puT 41].take (k-L.length)):=by
   cases k-L.length with
   | zero=>simp [bal]
   | succ j=>rw [List.take_succ_cons,bal_cons,h2];simp [bal]
  omega
theorem Dy.par {b:Bool} {t u:List PL.Tok} (h:Dy t) (hu:Dy u):Dy (parT b t u):=by
 cases b
 ·exact hu
 ·exact h.wrap
theorem dp_kind {t:PL.Tok} (h:RealT t) (hk:t.kind≠4):dp t=0:=by
 unfold dp
 have no:∀c:UInt8,kDq c=false→t.text≠[c]:=by
  intro c hc ht
  rcases h with⟨b,-,-,h4,-⟩ | ⟨-,h2,-⟩
  ·exact hk h4
  ·have:=h2 c (by rw [ht];simp)
   rw [hc] at this
   cases this
 rw [if_neg (no 40 (by decide)),if_neg (no 41 (by decide))]
theorem dp_id {x:List UInt8} (h:Real 1 x 0):dp (idT x)=0:=dp_kind (kVk h) (by show (1:Nat)≠4;decide)
theorem dy_arg:∀(ys:List (List UInt8)),(∀y∈ys,Real 1 y 0)→Dy (argT ys)
 | [],_=>Dy.nil
 | [x],h=>Dy.one (dp_id (h x (by simp)))
 | x::y::r,h=>Dy.cons (dp_id (h x (by simp))) (Dy.cons (show dp (puT 44)=0 from rfl) (dy_arg (y::r) (fun z hz=>h z (List.mem_cons_of_mem _ hz))))
theorem dp_rel (k:Nat):dp (relT k)=0:=by
 unfold relT
 split<;>rfl
theorem dp_con (op:Int):dp (kyT (conW op))=0:=dp_kind (real_con op) (by show (3:Nat)≠4;decide)
theorem dp_qu (op:Int):dp (kyT (quW op))=0:=dp_kind (real_qu op) (by show (3:Nat)≠4;decide)
theorem dp_so {s:Nat} (h:s<4):dp (kyT (kDj.getD s []))=0:=dp_kind (real_sort h) (by show (3:Nat)≠4;decide)
theorem dp_nm {n:Int} (h0:0≤n) (h1:n≤64):dp (nmT n)=0:=dp_kind (real_nm h0 h1) (by show (2:Nat)≠4;decide)
theorem dy_pr:∀(k:Nat) (nd:Nd),kCz nd≤k→okF nd→∀last,Dy (prT last nd)
 | 0,nd,hn,_,_=>by have:=kRw nd;omega
 | k+1,.mk op names so n m ls,hn,hok,last=>by
  unfold okF at hok
  obtain⟨hnm,hc,hs⟩:=hok
  unfold prT
  unfold kCz at hn
  have hget:∀(b:Bool) (l:List Nd) (i:Nat),(∀x∈l,x∈ls)→Dy ((prsT b l).getD i []):=by
   intro b l
   induction l with
   | nil=>intro i _;simpa [prsT] using Dy.nil
   | cons a l ih =>
    intro i h
    cases i with
    | zero =>
     have ha:=oks_mem (h a (by simp))
     simpa [prsT] using dy_pr k a (by omega) (ha.2 hs) b
    | succ i=>simpa [prsT] using ih i (fun x hx=>h x (by simp [hx]))
  have hg:=fun b i=>hget b ls i (fun x hx=>hx)
  by_cases h11:op<11
  ·rw [if_pos h11]
   unfold kIk
   rcases hc with⟨h1 | h1,rfl,rfl,rfl,rfl,rfl⟩ | ⟨h1,h2,h3,rfl,rfl,rfl,rfl⟩ | ⟨rfl,h3,rfl,rfl,h4,h5,rfl⟩ | ⟨rfl,h3,rfl,rfl,h4,h5,h6⟩ | ⟨rfl,h3,rfl,rfl,rfl,rfl⟩ | ⟨rfl,h3,h4,rfl,rfl,rfl,rfl⟩ | ⟨rfl,-⟩ | ⟨h1,-⟩ | ⟨h1,-⟩
   ·subst h1
    rw [if_pos rfl]
    exact Dy.one rfl
   ·subst h1
    rw [if_neg (by decide),if_pos rfl]
    exact Dy.one rfl
   ·match names,h3 with
    | [x,y],_ =>
     rw [if_neg (by omega),if_neg (by omega),if_pos h2]
     exact Dy.cons (dp_id (hnm x (by simp))) (Dy.cons (dp_rel _) (Dy.one (dp_id (hnm y (by simp)))))
   ·match names,h3 with
    | [x],_ =>
     rw [if_neg (by decide),if_neg (by decide),if_neg (by decide),if_pos rfl]
     exact Dy.cons (dp_id (hnm x (by simp))) (Dy.cons rfl (Dy.one (dp_nm h4 (by omega))))
   ·match names,h3 with
    | [x],_ =>
     rw [if_neg (by decide),if_neg (by decide),if_neg (by decide),if_neg (by decide),if_pos rfl]
     exact Dy.cons rfl (Dy.cons (dp_id (hnm x (by simp))) (Dy.cons rfl (Dy.cons (dp_nm (by omega) (by omega)) (Dy.cons rfl (Dy.one (dp_nm h4 (by omega)))))))
   ·match names,h3 with
    | [x],_ =>
     rw [if_neg (by decide),if_neg (by decide),if_neg (by decide),if_neg (by decide),if_neg (by decide),if_pos rfl]
     exact Dy.cons rfl (Dy.one (dp_id (hnm x (by simp))))
   ·match names,h3 with
    | f::ys,_ =>
     rw [if_neg (by decide),if_neg (by decide),if_neg (by decide),if_neg (by decide),if_neg (by decide),if_neg (by decide)]
     exact Dy.cons (dp_id (hnm f (by simp))) (dy_arg ys (fun y hy=>hnm y (by simp [hy]))).wrap
   ·omega
   ·omega
   ·omega
  rw [if_neg h11]
  by_cases h12:op=11
  ·rw [if_pos h12]
   exact Dy.cons rfl ((hg _ _).par (hg _ _))
  rw [if_neg h12]
  by_cases h16:op<16
  ·rw [if_pos h16]
   exact ((hg _ _).par (hg _ _)).app (Dy.cons (dp_con _) ((hg _ _).par (hg _ _)))
  ·rw [if_neg h16]
   have hq:names.length=1∧0≤so∧so<4:=by
    rcases hc with h | h | h | h | h | h | h | h | h
    ·omega
    ·omega
    ·omega
    ·omega
    ·omega
    ·omega
    ·omega
    ·omega
    ·exact⟨h.2.2.1,h.2.2.2.2.1,h.2.2.2.2.2.1⟩
   match names,hq with
   | [x],hq=>exact Dy.cons (dp_qu _) (Dy.cons (dp_so (by omega)) (Dy.cons (dp_id (hnm x (by simp))) (Dy.cons rfl (hg _ _))))
theorem dy_var:∀(f:List (List UInt8×Int)),(∀v∈f,Real 1 v.1 0∧0≤v.2∧v.2<4)→Dy ((varB f).map Prod.snd)
 | [],_=>Dy.nil
 | [v],h=>by
  have hv:=h v (by simp)
  exact Dy.cons (dp_so (by omega)) (Dy.one (dp_id hv.1))
 | v::u::r,h=>by
  have hv:=h v (by simp)
  exact Dy.cons (dp_so (by omega)) (Dy.cons (dp_id hv.1) (Dy.cons (show dp (puT 44)=0 from rfl) (dy_var (u::r) (fun z hz=>h z (List.mem_cons_of_mem _ hz)))))
theorem dy_quest {q:Qn} (hv:okV q.free) (hb:okF q.body):Dy (prQ q):=by
 unfold prQ
 refine Dy.app ?_ (dy_pr _ q.body (Nat.le_refl _) hb true)
 cases hf:q.free with
 | nil=>exact Dy.nil
 | cons v r =>
  have h1:=dy_var (v::r) (by rw [←hf];exact hv.2.1)
  show Dy (kyT [102,105,110,100]::(varB (v::r)++[(false,puT 58)]).map Prod.snd)
  rw [List.map_append]
  exact Dy.cons rfl (h1.app (Dy.one rfl))
theorem bal_alike {a b:List PL.Tok} (h:Alike a b):bal a=bal b:=by
 have key:∀L:List PL.Tok,bal L=((L.map PL.Tok.key).map (fun k=>if k.2.1=[40] then (1:Int) else if k.2.1=[41] then -1 else 0)).sum:=by
  intro L
  rw [List.map_map]
  rfl
 rw [key,key,show a.map PL.Tok.key=b.map PL.Tok.key from h]
theorem lps_alike {a b:List PL.Tok} (h:Alike a b):lps a=lps b:=by
 have key:∀L:List PL.Tok,lps L=((L.map PL.Tok.key).map (fun k=>if k.2.1=[40] then 1 else 0)).sum:=by
  intro L
  rw [List.map_map]
  rfl
 rw [key,key,show a.map PL.Tok.key=b.map PL.Tok.key from h]
theorem Dy.drop {L:List PL.Tok} (h:Dy L) (k:Nat):bal (L.drop k)≤0:=by
 have h1:=h.all
 have h2:=h.pre k
 have h3:bal L=bal (L.take k)+bal (L.drop k):=by rw [←bal_app,List.take_append_drop]
 omega
def kJw {α:Type} (a e:Nat):Nat→List α→List α
 | _,[]=>[]
 | i,t::r=>if i=a∨i=e then kJw a e (i+1) r else t::kJw a e (i+1) r
theorem kWw {α:Type} (a e:Nat) (t:α):∀(L:List α) (i:Nat),kJw a e i (L++[t])=kJw a e i L++(if i+L.length=a∨i+L.length=e then [] else [t])
 | [],i=>by
  simp only [List.nil_append,kJw,List.length_nil,Nat.add_zero]
 | u::L,i=>by
  simp only [List.cons_append,kJw,kWw a e t L (i+1),List.length_cons]
  rw [show i+1+L.length=i+(L.length+1) by omega]
  split
  ·rfl
  ·simp
theorem omit2_map {α β:Type} (f:α→β) (a e:Nat):∀(L:List α) (i:Nat),(kJw a e i L).map f=kJw a e i (L.map f)
 | [],_=>rfl
 | u::L,i=>by
  simp only [kJw,List.map_cons]
  split
  ·exact omit2_map f a e L (i+1)
  ·rw [List.map_cons,omit2_map f a e L (i+1)]
theorem omit2_mem {α:Type} {a e:Nat} {t:α}:∀{L:List α} {i:Nat},t∈kJw a e i L→t∈L
 | [],_,h=>by cases h
 | u::L,i,h=>by
  simp only [kJw] at h
  split at h
  ·exact List.mem_cons_of_mem _ (omit2_mem h)
  ·rcases List.mem_cons.1 h with rfl | h
   ·simp
   ·exact List.mem_cons_of_mem _ (omit2_mem h)
theorem omit2_len {α:Type} (a e:Nat):∀(L:List α) (i:Nat),(kJw a e i L).length≤L.length
 | [],_=>by simp [kJw]
 | u::L,i=>by
  have:=omit2_len a e L (i+1)
  simp only [kJw]
  split
  ·simp only [List.length_cons];omega
  ·simp only [List.length_cons];omega
theorem omit2_wts (a e:Nat):∀(L:List PL.Tok) (i:Nat),wts (kJw a e i L)≤wts L
 | [],_=>by simp [kJw]
 | u::L,i=>by
  have:=omit2_wts a e L (i+1)
  simp only [kJw]
  split
  ·rw [kDw];omega
  ·rw [kDw,kDw];omega
theorem omit2_lps_le (a e:Nat):∀(L:List PL.Tok) (i:Nat),lps (kJw a e i L)≤lps L
 | [],_=>by simp [kJw]
 | u::L,i=>by
  have:=omit2_lps_le a e L (i+1)
  simp only [kJw]
  split
  ·rw [kOk];omega
  ·rw [kOk,kOk];omega
theorem omit2_lps (a e:Nat) {t:PL.Tok}:∀(L:List PL.Tok) (i j:Nat),L[j]?=some t→i+j=a→lps (kJw a e i L)+lp t≤lps L
 | [],_,_,h,_=>by simp at h
 | u::L,i,0,h,ha=>by
  simp only [List.getElem?_cons_zero,Option.some.injEq] at h
  subst h
  have:=omit2_lps_le a e L (i+1)
  simp only [kJw]
  rw [if_pos (Or.inl (by omega)),kOk]
  omega
 | u::L,i,j+1,h,ha=>by
  simp only [List.getElem?_cons_succ] at h
  have:=omit2_lps a e L (i+1) j h (by omega)
  simp only [kJw]
  split
  ·rw [kOk];omega
  ·rw [kOk,kOk];omega
theorem allT_omit {a e:Nat} {L:List PL.Tok} (h:AllT L) (i:Nat):AllT (kJw a e i L):=fun t ht=>h t (omit2_mem ht)
theorem jn_wle (L:List PL.Tok):(jn L).length≤wts L:=by
 by_cases h:L=[]
 ·subst h;simp [jn,jnB,spB]
 ·have:=jn_wts L h;omega
theorem kYz.omit {q:Qn} (h:kYz q) {ts:List PL.Tok} (hts:Alike (prQ q++[⟨0,[],0,0,0⟩]) ts) {a e:Nat} {t:PL.Tok} (ht:ts[a]?=some t) (hx:t.text=[40]) (he:a<e) (hel:e+1<ts.length) :
  ∃xs,joinF ((kJw a e 0 ts).map ofTok)=some xs∧(Lib.join xs [32]).length≤65536∧((kGx kFw (Lib.join xs [32])).er=0→(kGx kFw (Lib.join xs [32])).q≠q):=by
 have hlen:=al_len hts
 simp only [List.length_append,List.length_cons,List.length_nil] at hlen
 have hsn:kJw a e 0 (prQ q++[(⟨0,[],0,0,0⟩:PL.Tok)])=kJw a e 0 (prQ q)++[⟨0,[],0,0,0⟩]:=by
  rw [kWw,if_neg (by omega)]
 have hal:Alike (kJw a e 0 (prQ q)++[⟨0,[],0,0,0⟩]) (kJw a e 0 ts):=by
  unfold Alike
  rw [←hsn,omit2_map,omit2_map,show (prQ q++[(⟨0,[],0,0,0⟩:PL.Tok)]).map PL.Tok.key=ts.map PL.Tok.key from hts]
 have hreal:=allT_omit (a:=a) (e:=e) (prQ_real h.v h.b) 0
 have hw1:=jn_wts (prQ q) (prQ_ne q)
 have hw2:=omit2_wts a e (prQ q) 0
 have hw3:=jn_wle (kJw a e 0 (prQ q))
 have hlq:=h.len
 have hne:kJw a e 0 (prQ q)≠[]∨kJw a e 0 (prQ q)=[]:=by
  by_cases hh:kJw a e 0 (prQ q)=[]
  ·exact Or.inr hh
  ·exact Or.inl hh
 have hl:(jn (kJw a e 0 (prQ q))).length≤65536:=by
  rcases hne with hh | hh
  ·have:=jn_wts _ hh;omega
  ·rw [hh];simp [jn,jnB,spB]
 have hm:∀t∈kJw a e 0 (prQ q),t.text.length≤65536:=fun t ht=>by
  have:=wt_mem (omit2_mem ht)
  unfold wt at this
  omega
 refine⟨txs (kJw a e 0 (prQ q)),joinF_alike _ _ hreal hm hal,by rw [jn_txs];exact hl,?_⟩
 rw [jn_txs]
 obtain⟨us,h1,h2⟩:=jn_lex hreal hl
 intro her heq
 obtain⟨hf,hn,-⟩:=lexT_fin (show lexT (jn (kJw a e 0 (prQ q)))=.ok us from h1)
 obtain⟨p,s,hp,-⟩:=queryP_ok hf hn
 have hr:kGx kFw (jn (kJw a e 0 (prQ q)))=endF us p s:=by
  unfold kGx
  rw [show lexT (jn (kJw a e 0 (prQ q)))=.ok us from h1]
  simp only
  rw [hp]
 rw [hr] at her heq
 obtain⟨hg,-⟩:=query_good (lexT_real (show lexT (jn (kJw a e 0 (prQ q)))=.ok us from h1)) hp her
 have hs0:s.er=0:=by
  unfold endF at her
  simp only at her
  by_cases hk:(tkAt us s).kind=0
  ·rw [if_pos hk] at her
   by_cases h0:s.er=0
   ·exact h0
   ·rw [if_neg h0] at her;exact absurd her h0
  ·rw [if_neg hk,if_neg (kFq (by decide))] at her
   exact absurd her (kFq (by decide))
 rw [hg] at heq
 simp only at heq
 subst heq
 have hc:=query_c hp hs0
 have ha:a<(prQ p).length:=by omega
 obtain⟨u,hu⟩:∃u,(prQ p)[a]?=some u:=⟨_,List.getElem?_eq_getElem ha⟩
 have hkey:u.key=t.key:=by
  have h3:=congrArg (fun l=>l[a]?) (show (prQ p++[(⟨0,[],0,0,0⟩:PL.Tok)]).map PL.Tok.key=ts.map PL.Tok.key from hts)
  simp only [List.getElem?_map,List.getElem?_append_left ha,hu,ht,Option.map_some,Option.some.injEq] at h3
  exact h3
 have hlp:lp u=1:=by
  have:u.text=t.text:=congrArg (fun p=>p.2.1) hkey
  unfold lp
  rw [this,hx,if_pos rfl]
 have ho:=omit2_lps a e (prQ p) 0 a hu (by omega)
 have hu2:=lps_alike h2
 rw [lps_app,kOk,lps_nil,show lp (⟨0,[],0,0,0⟩:PL.Tok)=0 from rfl] at hu2
 have hq:=lps_quest h.v h.b
 omega
structure RowI (w:World) (e:TypeId) (z:Nat) (xs:List Value) (n:Nat) (l:Value) (wr:World):Prop where
 row:wr.ownsRow 0 e z l n xs
 own:∀g,l.ownBlock=some g→w.heap.size≤g
 up:Upto [] w wr
theorem RowI.nil (w:World) (e:TypeId) (z:Nat):RowI w e z [] 0 (.slice none 0 0) w:=⟨⟨by simp,Or.inl ⟨rfl,rfl⟩⟩,fun g hg=>(by cases hg),Upto.refl _ _⟩
theorem RowI.ext {w wr wr':World} {e:TypeId} {z:Nat} {xs:List Value} {n:Nat} {l:Value} (h:RowI w e z xs n l wr) (hu:Upto [] wr wr'):RowI w e z xs n l wr':=⟨kIx h.row hu (by simp),h.own,h.up.trans_ext hu⟩
theorem RowI.app {w wr wr':World} {e:TypeId} {z:Nat} {xs ys:List Value} {n:Nat} {l:Value} {src:Obj} {b':Option Addr} {c':Nat} (h:RowI w e z xs n l wr) (ho:wr'.ownsRow 0 e z (.slice b' (n+1) c') (n+1) (xs++ys)) (hu:Upto l.ownBlock.toList (wr.alloc src) wr') (hw:∀g,(Value.slice b' (n+1) c').ownBlock=some g→l.ownBlock=some g∨(wr.alloc src).heap.size≤g) :
  RowI w e z (xs++ys) (n+1) (.slice b' (n+1) c') wr':=by
 have h':=h.ext ((Upto.refl [] wr).alloc src)
 exact⟨ho,fun g hg=>(hw g hg).elim (h.own g) (fun h=>Nat.le_trans h'.up.size h),h'.up.trans hu (fun k hk=>Or.inr (h.own k (Option.mem_toList.1 hk)))⟩
theorem RowI.start {w wr:World} (h:Upto [] w wr) (e:TypeId) (z:Nat):RowI w e z [] 0 (.slice none 0 0) wr:=⟨⟨by simp,Or.inl ⟨rfl,rfl⟩⟩,fun g hg=>(by cases hg),h⟩
theorem bal_len (L:List PL.Tok):bal L≤L.length:=by
 induction L with
 | nil=>simp [bal]
 | cons t r ih =>
  have:dp t≤1:=by
   unfold dp
   split
   ·omega
   ·split<;>omega
  rw [bal_cons,List.length_cons]
  omega
theorem infoI3:(Tryz.prog.info? 3).map (fun i=>(i.zero,i.size,i.bytes))=some (some (.int .i64 0),1,8):=by kernel_rfl
def intC (k:Nat):Value:=.int .i64 (k:Int)
theorem par_kind {q:Qn} (h:kYz q) {ts:List PL.Tok} (hal:Alike (prQ q++[⟨0,[],0,0,0⟩]) ts):∀t∈ts,dp t≠0→t.kind=4:=by
 intro t ht hd
 have hk:t.key∈(prQ q++[(⟨0,[],0,0,0⟩:PL.Tok)]).map PL.Tok.key:=by
  rw [show (prQ q++[(⟨0,[],0,0,0⟩:PL.Tok)]).map PL.Tok.key=ts.map PL.Tok.key from hal]
  exact List.mem_map_of_mem ht
 obtain⟨u,hu,he⟩:=List.mem_map.1 hk
 have h1:u.text=t.text:=congrArg (fun p=>p.2.1) he
 have h2:u.kind=t.kind:=congrArg (fun p=>p.1) he
 have h3:dp u=dp t:=by unfold dp;rw [h1]
 rcases List.mem_append.1 hu with hu | hu
 ·by_cases h4:u.kind=4
  ·omega
  ·have:=dp_kind (prQ_real h.v h.b u hu) h4
   omega
 ·simp only [List.mem_cons,List.not_mem_nil,or_false] at hu
  subst hu
  exact absurd (h3.symm.trans rfl) hd
theorem bal_end {q:Qn} (h:kYz q) {ts:List PL.Tok} (hal:Alike (prQ q++[⟨0,[],0,0,0⟩]) ts) (k:Nat):bal (ts.drop k)≤0:=by
 have hd:Dy (prQ q++[(⟨0,[],0,0,0⟩:PL.Tok)]):=(dy_quest h.v h.b).app (Dy.one rfl)
 have:Alike ((prQ q++[(⟨0,[],0,0,0⟩:PL.Tok)]).drop k) (ts.drop k):=by
  unfold Alike
  rw [List.map_drop,List.map_drop,show (prQ q++[(⟨0,[],0,0,0⟩:PL.Tok)]).map PL.Tok.key=ts.map PL.Tok.key from hal]
 rw [←bal_alike this]
 exact hd.drop k
theorem last_text {q:Qn} {ts:List PL.Tok} (hal:Alike (prQ q++[⟨0,[],0,0,0⟩]) ts) {i:Nat} {t:PL.Tok} (hi:ts[i]?=some t) (ht:t.text≠[]):i+1<ts.length:=by
 have hlen:=al_len hal
 simp only [List.length_append,List.length_cons,List.length_nil] at hlen
 have hlt:=(List.getElem?_eq_some_iff.1 hi).1
 by_cases h:i+1<ts.length
 ·exact h
 ·exfalso
  have hi2:i=(prQ q).length:=by omega
  have h3:=congrArg (fun l=>l[i]?) (show (prQ q++[(⟨0,[],0,0,0⟩:PL.Tok)]).map PL.Tok.key=ts.map PL.Tok.key from hal)
  simp only [List.getElem?_map,hi2] at h3
  rw [List.getElem?_append_right (Nat.le_refl _)] at h3
  rw [hi2] at hi
  rw [hi] at h3
  simp only [Nat.sub_self,List.getElem?_cons_zero,Option.map_some,Option.some.injEq] at h3
  exact ht (congrArg (fun p=>p.2.1) h3).symm
theorem bal_step {ts:List PL.Tok} {A i:Nat} {t:PL.Tok} (hA:A≤i) (ht:ts[i]?=some t):bal ((ts.drop A).take (i+1-A))=bal ((ts.drop A).take (i-A))+dp t:=by
 have h:(ts.drop A)[i-A]?=some t:=by rw [List.getElem?_drop,show A+(i-A)=i by omega];exact ht
 obtain⟨h1,h2⟩:=List.getElem?_eq_some_iff.1 h
 rw [show i+1-A=(i-A)+1 by omega,List.take_succ_eq_append_getElem h1,h2,bal_app,bal_cons,bal_nil]
 omega
theorem printerParentheses_walk (q:Qn) (v:Value) (z:Int) (w:World) (hq:ArgQ w q v) (hz:0≤z∧z≤65535) (hE:Env w∧SEnv w∧FEnv w∧PEnv w):Calls Tryz.prog 14 #[v,.int .u16 z] w fun e w'=>e=.returned (.bool true)∧Upto [] w w':=by
 have hf:=hq.facts
 have HEE:=Lib.hid (fun u (hu:Upto [] w u)=>EnvP.ext hE hu)
 have HK:Hid (∀u,Upto [] w u→Calls Tryz.prog 42 #[] u fun e w'=>e=.returned (.bool true)∧Upto [] u w'):=Lib.hid (fun u hu=>kTw u (HEE.out u hu))
 have HAS:=Lib.hid (fun u (hu:Upto [] w u)=>kVw q v u AnyB (hf.ext hu).val hf.sz hf.big hf.fl hf.fn)
 have HRT:=Lib.hid (fun u (hu:Upto [] w u)=>kTx q v u AnyB (hf.ext hu).val hf.sz hf.ins hf.fn)
 have HOF:=Lib.hid (fun u (hu:Upto [] w u)=>ofq_calls q v u AnyB (hf.ext hu).val hf.sz hf.big hf.fl)
 have HSZ:=Lib.hid (And.intro hf.sz (And.intro hf.ins hf.fn))
 obtain⟨f1,f3,o1,a1,a2,a3,s1,n1,m1,l1,l2,l3,rfl,-,-⟩:=hf.val.open
 obtain⟨L,hL⟩:∃L,q.free.length=L:=⟨_,rfl⟩
 rw [hL] at HAS HRT HOF ⊢
 have HU1:Hid (Upto [] w (w.alloc (.cells #[.slice f1 L f3,.int .i64 o1,.slice a1 a2 a3,.int .i64 s1,.int .i64 n1,.int .i64 m1,.slice l1 l2 l3] 45))):=Lib.hid ((Upto.refl [] w).alloc _)
 have HB1:Hid ((w.alloc (.cells #[.slice f1 L f3,.int .i64 o1,.slice a1 a2 a3,.int .i64 s1,.int .i64 n1,.int .i64 m1,.slice l1 l2 l3] 45)).heap[w.heap.size]?=some (.cells #[.slice f1 L f3,.int .i64 o1,.slice a1 a2 a3,.int .i64 s1,.int .i64 n1,.int .i64 m1,.slice l1 l2 l3] 45 (0,0))):=Lib.hid (kAq w _)
 have c1:∀b:Bool,b=true∨b=false:=fun b=>by cases b<;>simp
 clear hq hf hE hL
 rcases c1 (kVx q) with aq | aq
 case inr =>
  rw [aq] at HAS
  clear aq
  have hp1:=HB1.out
  obtain⟨p0,p1,p2,p3,p4,p5,p6⟩:=kBw hp1
  clear hp1
  go_enter Tryz.func14,Tryz.ntmps14
  go_wp2_with fail
  refine (HAS.out _ HU1.out).mono ?_
  rintro e w2 ⟨rfl,hu2⟩
  have HU2:=Lib.hid (HU1.out.trans_ext hu2)
  have HB2:=Lib.hid (hu2.at HB1.out (by simp))
  clear p0 p1 p2 p3 p4 p5 p6
  clear hu2
  go_wp2_with fail
  refine (HK.out _ HU2.out).mono ?_
  rintro e wk ⟨rfl,huk⟩
  have HUK:=Lib.hid (HU2.out.trans_ext huk)
  clear huk
  go_wp2_with fail
  go_ret
  exact⟨rfl,HUK.out⟩
 rw [aq] at HAS
 by_cases rq:kIj kBj q=0
 case neg =>
  obtain⟨R,hR⟩:∃R,kIj kBj q=R:=⟨_,rfl⟩
  rw [hR] at HRT rq
  have r1:((R:Int)==0)=false:=by rw [beq_eq_false_iff_ne];omega
  have r2:((R:Int) != 0)=true:=by rw [bne,r1];rfl
  clear aq hR rq
  have hp1:=HB1.out
  obtain⟨p0,p1,p2,p3,p4,p5,p6⟩:=kBw hp1
  clear hp1
  go_enter Tryz.func14,Tryz.ntmps14
  go_wp2_with fail
  refine (HAS.out _ HU1.out).mono ?_
  rintro e w2 ⟨rfl,hu2⟩
  have HU2:=Lib.hid (HU1.out.trans_ext hu2)
  have HB2:=Lib.hid (hu2.at HB1.out (by simp))
  clear p0 p1 p2 p3 p4 p5 p6
  have hp2:=HB2.out
  obtain⟨p0,p1,p2,p3,p4,p5,p6⟩:=kBw hp2
  clear hp2
  clear hu2
  go_wp2_with fail
  refine (HRT.out _ HU2.out).mono ?_
  rintro e w3 ⟨rfl,hu3⟩
  have HU3:=Lib.hid (HU2.out.trans_ext hu3)
  have HB3:=Lib.hid (hu3.at HB2.out (by simp))
  clear p0 p1 p2 p3 p4 p5 p6
  clear hu3
  go_wp2_with fail
  refine (HK.out _ HU3.out).mono ?_
  rintro e wk ⟨rfl,huk⟩
  have HUK:=Lib.hid (HU3.out.trans_ext huk)
  clear huk
  go_wp2_with fail
  go_ret
  exact⟨rfl,HUK.out⟩
 rw [rq] at HRT
 have gq:=right_q aq rq
 have HRR:=Lib.hid rq
 have HGQ:=Lib.hid gq
 have HPR:=Lib.hid (gq.print rq)
 have HOK:=Lib.hid (And.intro gq.v (And.intro gq.b gq.g))
 obtain⟨ts,k1,k2,k3,k4,hal⟩:=gq.toks
 have HTK:=Lib.hid (tok_ok k1 (by have:=gq.len;omega))
 have HNE:Hid (ts≠[]):=Lib.hid (fun h=>by
  have:=al_len hal
  rw [h] at this
  simp at this)
 have HPK:=Lib.hid (par_kind gq hal)
 have HAL:=Lib.hid hal
 have HTL:=Lib.hid k4
 obtain⟨n,hn⟩:∃n,ts.length=n:=⟨_,rfl⟩
 have HNN:=Lib.hid hn
 rw [hn] at k3
 have hn1:(n:Int)≤65540:=by omega
 obtain⟨iq,hiq,haq,hbq,hcq⟩:=info_parts infoI3
 obtain⟨it,hit,hat',hbt,hct⟩:=info_parts info36
 have HIt:=Lib.hid hit
 have HAt:=Lib.hid hat'
 have HBt:=Lib.hid hbt
 have HCt:=Lib.hid hct
 have HIq:=Lib.hid hiq
 have HAq:=Lib.hid haq
 have HBq:=Lib.hid hbq
 have HCq:=Lib.hid hcq
 obtain⟨zn,rfl⟩:=kUj hz.1
 have hz1:(zn:Int)≤65535:=hz.2
 clear aq rq gq k1 k2 k4 hal hiq haq hbq hcq hit hat' hbt hct hn hz
 generalize jn (prQ q)=S at *
 have hp1:=HB1.out
 obtain⟨p0,p1,p2,p3,p4,p5,p6⟩:=kBw hp1
 clear hp1
 go_enter Tryz.func14,Tryz.ntmps14
 go_wp2_with fail
 refine (HAS.out _ HU1.out).mono ?_
 rintro e w2 ⟨rfl,hu2⟩
 have HU2:=Lib.hid (HU1.out.trans_ext hu2)
 have HB2:=Lib.hid (hu2.at HB1.out (by simp))
 clear p0 p1 p2 p3 p4 p5 p6
 have hp2:=HB2.out
 obtain⟨p0,p1,p2,p3,p4,p5,p6⟩:=kBw hp2
 clear hp2
 clear hu2
 go_wp2_with fail
 refine (HRT.out _ HU2.out).mono ?_
 rintro e w3 ⟨rfl,hu3⟩
 have HU3:=Lib.hid (HU2.out.trans_ext hu3)
 have HB3:=Lib.hid (hu3.at HB2.out (by simp))
 clear p0 p1 p2 p3 p4 p5 p6
 have hp3:=HB3.out
 obtain⟨p0,p1,p2,p3,p4,p5,p6⟩:=kBw hp3
 clear hp3
 clear hu3
 go_wp2_with fail
 refine (HOF.out _ HU3.out).mono ?_
 rintro e w4 ⟨v4,rfl,hq4,hu4⟩
 have hq4b:=QnV.keep (Keep.mono (fun b _ _=>(trivial:AnyB b))) hq4
 obtain⟨x1,x2,x3,xo,xa1,xa2,xa3,xs,xn,xm,xl1,xl2,xl3,rfl⟩:=hq4.seven
 have HQ4:=Lib.hid hq4b
 clear hq4 hq4b
 have ua4:Upto [] w4 (w4.alloc (.cells #[.slice x1 x2 x3,.int .i64 xo,.slice xa1 xa2 xa3,.int .i64 xs,.int .i64 xn,.int .i64 xm,.slice xl1 xl2 xl3] 48)):=((Upto.refl [] w4).alloc _)
 have HU4:=Lib.hid ((HU3.out.trans_ext hu4).trans_ext ua4)
 have HG4:=Lib.hid ua4
 have HB4:=Lib.hid ((hu4.trans_ext ua4).at HB3.out (by simp))
 have HX4:Hid ((w4.alloc (.cells #[.slice x1 x2 x3,.int .i64 xo,.slice xa1 xa2 xa3,.int .i64 xs,.int .i64 xn,.int .i64 xm,.slice xl1 xl2 xl3] 48)).heap[w4.heap.size]?=some (.cells #[.slice x1 x2 x3,.int .i64 xo,.slice xa1 xa2 xa3,.int .i64 xs,.int .i64 xn,.int .i64 xm,.slice xl1 xl2 xl3] 48 (0,0))):=Lib.hid (kAq w4 _)
 clear p0 p1 p2 p3 p4 p5 p6
 have hx4:=HX4.out
 obtain⟨x0,x1,x2,x3,x4,x5,x6⟩:=kBw hx4
 clear hx4
 clear hu4 ua4
 go_wp2_with fail
 have HQX:=Lib.hid (fun u (hu:Upto [] w4 u)=>QnV.keep (Keep.upto hu (by simp)) HQ4.out)
 refine (print_to HPR.out HRR.out (HQX.out _ HG4.out) (HEE.out _ HU4.out)).mono ?_
 rintro e w5 ⟨rfl,hu5⟩
 have HU5:=Lib.hid (HU4.out.trans_ext hu5)
 have HB5:=Lib.hid (hu5.at HB4.out (by simp))
 have HX5:=Lib.hid (hu5.at HX4.out (by simp))
 have HD5:=Lib.hid (HG4.out.trans_ext hu5)
 clear x0 x1 x2 x3 x4 x5 x6
 clear hu5
 go_wp2_with fail
 refine (HTK.out _ (HEE.out _ HU5.out).1).mono ?_
 rintro e w6 ⟨v6,rfl,hv6,hu6⟩
 rcases hv6.at with⟨hh,_⟩ | ⟨tg,tof,tc,rfl,hat6⟩
 ·exact absurd hh HNE.out
 have HAT:=Lib.hid (hat6.ext ((Upto.refl [] w6).alloc (.cells #[.int .i64 0,.int .i64 0] 36)))
 clear hat6 hv6
 rw [HNN.out]
 have HD6:=Lib.hid (HD5.out.trans_ext (hu6.trans_ext ((Upto.refl [] w6).alloc (.cells #[.int .i64 0,.int .i64 0] 36))))
 have ua6:Upto [] w6 (w6.alloc (.cells #[.int .i64 0,.int .i64 0] 36)):=((Upto.refl [] w6).alloc _)
 have HU6:=Lib.hid ((HU5.out.trans_ext hu6).trans_ext ua6)
 have HG6:=Lib.hid ua6
 have HB6:=Lib.hid ((hu6.trans_ext ua6).at HB5.out (by simp))
 have HX6:=Lib.hid ((hu6.trans_ext ua6).at HX5.out (by simp))
 clear hu6 ua6
 go_wp2_with fail
 generalize (w6.alloc (.cells #[.int .i64 0,.int .i64 0] 36))=WT at *
 go_loopw [11,12] (fun l i wr=>∃(k:Nat) (os:List Nat),k≤n∧i=.int .i64 k∧Hid (RowI WT 3 1 (os.map intC) os.length l wr)∧Hid (∀x∈os,∃t,ts[x]?=some t∧t.text=[40])∧os.length≤k) (fun _ i _=>n-(intOf i).toNat)
 case atStart=>exact⟨0,[],by omega,rfl,Lib.hid (RowI.nil _ _ _),Lib.hid (by simp),by simp⟩
 case round =>
  obtain⟨k,os,hk,rfl,HR,HO,hos⟩:=hrel
  have hk0:(0:Int)≤k:=by omega
  obtain⟨N,hN⟩:∃N,os.length=N:=⟨_,rfl⟩
  obtain⟨va,vc,hve,-⟩:=kJj HR.out.row
  rw [hN] at hve hos
  subst hve
  have HN:=Lib.hid hN
  clear hN
  rcases Nat.lt_or_ge k n with hlt | hge
  ·have hltI:(k:Int)<n:=by omega
   obtain⟨t,ht⟩:∃t,ts[k]?=some t:=⟨_,List.getElem?_eq_getElem (by rw [HNN.out];exact hlt)⟩
   obtain⟨d0,d1,-,-,-⟩:=HAT.out.ext HR.out.up _ _ ht
   simp only [bs] at d1
   have HT:=Lib.hid ht
   clear ht
   by_cases h40:t.text=[40]
   ·have hk4:=HPK.out t (List.mem_of_getElem? HT.out) (by unfold dp;rw [if_pos h40];decide)
    have HO2:Hid (∀x∈os++[k],∃t,ts[x]?=some t∧t.text=[40]):=Lib.hid (fun x hx=>by
     rcases List.mem_append.1 hx with hx | hx
     ·exact HO.out x hx
     ·simp only [List.mem_cons,List.not_mem_nil,or_false] at hx
      subst hx
      exact⟨t,HT.out,h40⟩)
    rw [h40] at d1
    have k4:((t.kind:Int)==4)=true:=by rw [hk4];rfl
    have k4b:(t.kind:Int)=4:=by rw [hk4];rfl
    clear h40 hk4
    rw [k4b] at d0
    clear k4 k4b
    rcases k with _ | j
    ·simp only [Nat.zero_mul,Nat.add_zero] at d0 d1
     have hrow:=(HR.out.ext ((Upto.refl [] wr).alloc (.cells #[.int .i64 ((0:Nat):Int)] 3))).row
     have hsrc:=kQk (l:=[.int .i64 ((0:Nat):Int)]) (kAq wr (.cells #[.int .i64 ((0:Nat):Int)] 3))
     rw [HN.out] at hrow
     go_wp2_with (at_builtin;refine kHk _ rfl (.tmp 107) (.tmp 109) 81 rfl 3 iq (.int .i64 0) 1 8 Tryz.underlying81 HIq.out HAq.out HBq.out HCq.out rfl (by decide) (.slice va N vc) N (os.map intC) rfl hrow ⟨wr.heap.size,0,none⟩ 1 1 [.int .i64 ((0:Nat):Int)] rfl rfl hsrc (by simp [Value.oneCell']) (by unfold maxLen;omega) (by omega) ?_;intro vb vd w4 ho4 hu4 hw4;have HR5:Hid (RowI WT 3 1 ((os++[0]).map intC) (os++[0]).length (.slice vb (N+1) vd) w4):=Lib.hid (by have h9:=HR.out;rw [HN.out] at h9;have h8:=h9.app ho4 hu4 hw4;simpa [HN.out,intC] using h8);clear hrow hsrc ho4 hu4 hw4)
     go_roundw
     case rel=>exact⟨0+1,os++[0],by omega,by go_num,HR5,HO2,by simp only [List.length_append,List.length_cons,List.length_nil];have h9:=HN.out;omega⟩
     case measure=>first | (simp [intOf];done) | (simp [intOf];omega)
    ·obtain⟨p,hp⟩:∃p,ts[j]?=some p:=⟨_,List.getElem?_eq_getElem (by rw [HNN.out];omega)⟩
     obtain⟨p0,-,-,-,-⟩:=HAT.out.ext HR.out.up _ _ hp
     clear hp
     by_cases hp1:p.kind=1
     ·have p1:(p.kind:Int)=1:=by rw [hp1];rfl
      rw [p1] at p0
      clear hp1 p1
      rcases j with _ | j
      ·simp only [Nat.zero_add,Nat.one_mul,Nat.zero_mul,Nat.add_zero] at d0 d1 p0
       go_wp2_with fail
       go_roundw
       case rel=>exact⟨0+1+1,os,by omega,by go_num,HR,HO,by have h9:=HN.out;omega⟩
       case measure=>first | (simp [intOf];done) | (simp [intOf];omega)
      ·obtain⟨u,hu⟩:∃u,ts[j]?=some u:=⟨_,List.getElem?_eq_getElem (by rw [HNN.out];omega)⟩
       obtain⟨-,u1,-,-,-⟩:=HAT.out.ext HR.out.up _ _ hu
       simp only [bs] at u1
       clear hu
       by_cases h58:u.text=[58]
       ·rw [h58] at u1
        clear h58
        have hrow:=(HR.out.ext ((Upto.refl [] wr).alloc (.cells #[.int .i64 ((j+1+1:Nat):Int)] 3))).row
        have hsrc:=kQk (l:=[.int .i64 ((j+1+1:Nat):Int)]) (kAq wr (.cells #[.int .i64 ((j+1+1:Nat):Int)] 3))
        rw [HN.out] at hrow
        go_wp2_with (at_builtin;refine kHk _ rfl (.tmp 107) (.tmp 109) 81 rfl 3 iq (.int .i64 0) 1 8 Tryz.underlying81 HIq.out HAq.out HBq.out HCq.out rfl (by decide) (.slice va N vc) N (os.map intC) rfl hrow ⟨wr.heap.size,0,none⟩ 1 1 [.int .i64 ((j+1+1:Nat):Int)] rfl rfl hsrc (by simp [Value.oneCell']) (by unfold maxLen;omega) (by omega) ?_;intro vb vd w4 ho4 hu4 hw4;have HR5:Hid (RowI WT 3 1 ((os++[j+1+1]).map intC) (os++[j+1+1]).length (.slice vb (N+1) vd) w4):=Lib.hid (by have h9:=HR.out;rw [HN.out] at h9;have h8:=h9.app ho4 hu4 hw4;simpa [HN.out,intC] using h8);clear hrow hsrc ho4 hu4 hw4)
        go_roundw
        case rel=>exact⟨j+1+1+1,os++[j+1+1],by omega,by go_num,HR5,HO2,by simp only [List.length_append,List.length_cons,List.length_nil];have h9:=HN.out;omega⟩
        case measure=>first | (simp [intOf];done) | (simp [intOf];omega)
       ·have e1:(u.text==[58])=false:=by simpa using h58
        have e2:(u.text != [58])=true:=by rw [bne,e1];rfl
        clear h58
        go_wp2_with fail
        go_roundw
        case rel=>exact⟨j+1+1+1,os,by omega,by go_num,HR,HO,by have h9:=HN.out;omega⟩
        case measure=>first | (simp [intOf];done) | (simp [intOf];omega)
     ·have p1:((p.kind:Int)==1)=false:=by rw [beq_eq_false_iff_ne];omega
      have p2:((p.kind:Int) != 1)=true:=by rw [bne,p1];rfl
      clear hp1
      have hrow:=(HR.out.ext ((Upto.refl [] wr).alloc (.cells #[.int .i64 ((j+1:Nat):Int)] 3))).row
      have hsrc:=kQk (l:=[.int .i64 ((j+1:Nat):Int)]) (kAq wr (.cells #[.int .i64 ((j+1:Nat):Int)] 3))
      rw [HN.out] at hrow
      go_wp2_with (at_builtin;refine kHk _ rfl (.tmp 107) (.tmp 109) 81 rfl 3 iq (.int .i64 0) 1 8 Tryz.underlying81 HIq.out HAq.out HBq.out HCq.out rfl (by decide) (.slice va N vc) N (os.map intC) rfl hrow ⟨wr.heap.size,0,none⟩ 1 1 [.int .i64 ((j+1:Nat):Int)] rfl rfl hsrc (by simp [Value.oneCell']) (by unfold maxLen;omega) (by omega) ?_;intro vb vd w4 ho4 hu4 hw4;have HR5:Hid (RowI WT 3 1 ((os++[j+1]).map intC) (os++[j+1]).length (.slice vb (N+1) vd) w4):=Lib.hid (by have h9:=HR.out;rw [HN.out] at h9;have h8:=h9.app ho4 hu4 hw4;simpa [HN.out,intC] using h8);clear hrow hsrc ho4 hu4 hw4)
      go_roundw
      case rel=>exact⟨j+1+1,os++[j+1],by omega,by go_num,HR5,HO2,by simp only [List.length_append,List.length_cons,List.length_nil];have h9:=HN.out;omega⟩
      case measure=>first | (simp [intOf];done) | (simp [intOf];omega)
   ·have e1:(t.text==[40])=false:=by simpa using h40
    have e2:(t.text != [40])=true:=by rw [bne,e1];rfl
    clear h40
    by_cases hk4:t.kind=4
    ·have k4b:(t.kind:Int)=4:=by rw [hk4];rfl
     rw [k4b] at d0
     clear hk4 k4b
     go_wp2_with fail
     go_roundw
     case rel=>exact⟨k+1,os,by omega,by go_num,HR,HO,by have h9:=HN.out;omega⟩
     case measure=>first | (simp [intOf];done) | (simp [intOf];omega)
    ·have k4:((t.kind:Int)==4)=false:=by rw [beq_eq_false_iff_ne];omega
     have k5:((t.kind:Int) != 4)=true:=by rw [bne,k4];rfl
     clear hk4
     go_wp2_with fail
     go_roundw
     case rel=>exact⟨k+1,os,by omega,by go_num,HR,HO,by have h9:=HN.out;omega⟩
     case measure=>first | (simp [intOf];done) | (simp [intOf];omega)
  ·have hgeI:¬(k:Int)<n:=by omega
   by_cases hN0:N=0
   ·subst hN0
    have HUW:=Lib.hid (HU6.out.trans_ext HR.out.up)
    go_wp2_with fail
    refine (HK.out _ HUW.out).mono ?_
    rintro e wk ⟨rfl,huk⟩
    have HUK:=Lib.hid (HUW.out.trans_ext huk)
    clear huk
    go_wp2_with fail
    go_ret
    exact⟨rfl,HUK.out⟩
   have hNp:(0:Int)<N:=by omega
   obtain⟨pp,hpp⟩:∃pp,zn % N=pp:=⟨_,rfl⟩
   have hpl:pp<N:=by rw [←hpp];exact Nat.mod_lt _ (by omega)
   obtain⟨A,hA⟩:∃A,os[pp]?=some A:=⟨_,List.getElem?_eq_getElem (by rw [HN.out];exact hpl)⟩
   obtain⟨ta,hta,htx⟩:=HO.out A (List.mem_of_getElem? hA)
   have hsl:=SlN.of_row HR.out.row
   rw [HN.out] at hsl
   rcases hsl.2 with⟨h0,-⟩ | ⟨og,oo,oc,he,hcell⟩
   ·omega
   simp only [Value.slice.injEq] at he
   obtain⟨rfl,-,rfl⟩:=he
   have a0:=hcell pp (.int .i64 (A:Int)) (by rw [List.getElem?_map,hA];rfl)
   have hAn:A<n:=by rw [←HNN.out];exact (List.getElem?_eq_some_iff.1 hta).1
   have hmod:Int.tmod (zn:Int) (N:Int)=(pp:Int):=by subst hpp;rfl
   have hpI:(pp:Int)<N:=by omega
   have hp0:(0:Int)≤pp:=by omega
   have HTA:=Lib.hid (And.intro hta htx)
   have HUA:=Lib.hid HR.out.up
   have hA0:(0:Int)≤A:=by omega
   have hAI:(A:Int)<n:=by omega
   have hcase:A=0∨(0<A∧∃p:PL.Tok,ts[A-1]?=some p∧p.kind=1)∨(0<A∧∃p:PL.Tok,ts[A-1]?=some p∧p.kind≠1):=by
    rcases Nat.eq_zero_or_pos A with h | h
    ·exact Or.inl h
    ·obtain⟨p,hp⟩:∃p,ts[A-1]?=some p:=⟨_,List.getElem?_eq_getElem (by rw [HNN.out];omega)⟩
     by_cases h1:p.kind=1
     ·exact Or.inr (Or.inl ⟨h,p,hp,h1⟩)
     ·exact Or.inr (Or.inr ⟨h,p,hp,h1⟩)
   clear hA hta htx hsl hcell hpp hpl hN0 hk hge HR HO HN hos
   rcases hcase with hz | ⟨hz,p,hp,hp1⟩ | ⟨hz,p,hp,hp1⟩
   ·have hzI:¬(0:Int)<A:=by omega
    clear hz
    go_wp2_with fail
    clear a0 hmod
    go_loopw [14,15,16] (fun d e i wr=>∃k:Nat,A≤k∧k≤n∧i=.int .i64 k∧e=.int .i64 A∧d=.int .i64 (bal ((ts.drop A).take (k-A)))∧Hid (A<k→0<bal ((ts.drop A).take (k-A)))∧Hid (Upto [] WT wr)) (fun _ _ i _=>n-(intOf i).toNat)
    case atStart=>exact⟨A,Nat.le_refl _,by omega,rfl,rfl,by simp [bal],Lib.hid (by omega),HUA⟩
    case round =>
     obtain⟨k,hAk,hk,rfl,rfl,rfl,HPO,HW⟩:=hrel
     have hk0:(0:Int)≤k:=by omega
     have hbl:=bal_len ((ts.drop A).take (k-A))
     rw [List.length_take] at hbl
     have hb0:0≤bal ((ts.drop A).take (k-A)):=by
      rcases Nat.lt_or_ge A k with h | h
      ·have:=HPO.out h;omega
      ·rw [show k-A=0 by omega];simp [bal]
     rcases Nat.lt_or_ge k n with hlt | hge
     ·have hltI:(k:Int)<n:=by omega
      obtain⟨t,ht⟩:∃t,ts[k]?=some t:=⟨_,List.getElem?_eq_getElem (by rw [HNN.out];exact hlt)⟩
      obtain⟨d0,d1,-,-,-⟩:=HAT.out.ext HW.out _ _ ht
      simp only [bs] at d1
      have HBS:=Lib.hid (bal_step hAk ht)
      have HT:=Lib.hid ht
      clear ht
      by_cases h40:t.text=[40]
      ·have hk4:=HPK.out t (List.mem_of_getElem? HT.out) (by unfold dp;rw [if_pos h40];decide)
       have HDP:Hid (dp t=1):=Lib.hid (by unfold dp;rw [if_pos h40])
       rw [HDP.out] at HBS
       have k4b:(t.kind:Int)=4:=by rw [hk4];rfl
       rw [k4b] at d0
       rw [h40] at d1
       clear k4b hk4 h40
       generalize bal ((ts.drop A).take (k-A))=D at *
       have hDI:D≤70000:=by omega
       clear hbl
       go_wp2_with fail
       go_roundw
       case rel=>exact⟨k+1,by omega,by omega,by go_num,rfl,by first | (rw [HBS.out];done) | (rw [HBS.out];rfl),Lib.hid (fun _=>by rw [HBS.out];have h9:=HPO.out;omega),HW⟩
       case measure=>simp [intOf];omega
      ·have hAk2:A<k:=by
        rcases Nat.lt_or_ge A k with h | h
        ·exact h
        ·exfalso
         have:k=A:=by omega
         subst this
         rw [HTA.out.1] at HT
         exact h40 ((Option.some.inj HT.out)▸HTA.out.2)
       have hpos:=HPO.out hAk2
       by_cases h41:t.text=[41]
       ·have hk4:=HPK.out t (List.mem_of_getElem? HT.out) (by unfold dp;rw [if_neg h40,if_pos h41];decide)
        have HDP:Hid (dp t=-1):=Lib.hid (by unfold dp;rw [if_neg h40,if_pos h41])
        rw [HDP.out] at HBS
        have HLT:=Lib.hid (last_text HAL.out HT.out (by rw [h41];simp))
        have k4b:(t.kind:Int)=4:=by rw [hk4];rfl
        rw [k4b] at d0
        rw [h41] at d1
        clear k4b hk4 h40 h41
        generalize bal ((ts.drop A).take (k-A))=D at *
        have hDI:D≤70000:=by omega
        clear hbl
        by_cases hD1:D=1
        ·subst hD1
         clear hb0 hpos
         obtain⟨E,rfl⟩:∃E,E=k:=⟨_,rfl⟩
         have HW2:=Lib.hid HW.out
         obtain⟨xs,hj,hjl,hne⟩:=HGQ.out.omit HAL.out HTA.out.1 HTA.out.2 hAk2 HLT.out
         have HJ:=Lib.hid hj
         obtain⟨J,hJ⟩:∃J,Lib.join xs [32]=J:=⟨_,rfl⟩
         rw [hJ] at hjl hne
         have HJE:=Lib.hid hJ
         have HJL:Hid (J.length≤281474976710656):=Lib.hid (by omega)
         have HNEQ:=Lib.hid hne
         have hEA:(A:Int)<E:=by omega
         have hE0:(0:Int)≤E:=by omega
         clear hj hjl hne hJ HPO HBS HDP HLT HT
         go_wp2_with fail
         clear d0 d1
         go_loopw [17,18] (fun l i wr=>∃k:Nat,k≤n∧i=.int .i64 k∧Hid (RowI WT 83 5 ((kJw A E 0 (ts.take k)).flatMap tkC) (kJw A E 0 (ts.take k)).length l wr)) (fun _ i _=>n-(intOf i).toNat)
         case atStart=>exact⟨0,by omega,rfl,Lib.hid (by have h9:=RowI.start HW2.out 83 5;simpa [kJw] using h9)⟩
         case round =>
          obtain⟨k,hk3,rfl,HR⟩:=hrel
          have hk30:(0:Int)≤k:=by omega
          rcases Nat.lt_or_ge k n with hlt3 | hge3
          ·have hltI3:(k:Int)<n:=by omega
           obtain⟨t,ht⟩:∃t,ts[k]?=some t:=⟨_,List.getElem?_eq_getElem (by rw [HNN.out];exact hlt3)⟩
           have HTK3:Hid (ts.take (k+1)=ts.take k++[t]):=Lib.hid (by
            obtain⟨hi,h2⟩:=List.getElem?_eq_some_iff.1 ht
            rw [List.take_succ_eq_append_getElem hi,h2])
           have HTL3:Hid ((ts.take k).length=k):=Lib.hid (by rw [List.length_take,HNN.out];omega)
           by_cases hkA:k=A
           ·have HS:Hid (kJw A E 0 (ts.take (k+1))=kJw A E 0 (ts.take k)):=Lib.hid (by rw [HTK3.out,kWw,HTL3.out,if_pos (by omega),List.append_nil])
            have e1:((k:Int)==A)=true:=by rw [beq_iff_eq];omega
            have e2:((k:Int) != A)=false:=by rw [bne,e1];rfl
            clear hkA ht
            go_wp2_with fail
            go_roundw
            case rel=>exact⟨k+1,by omega,by go_num,by rw [HS.out];exact HR⟩
            case measure=>simp [intOf];omega
           ·have e1:((k:Int)==A)=false:=by rw [beq_eq_false_iff_ne];omega
            have e2:((k:Int) != A)=true:=by rw [bne,e1];rfl
            by_cases hkE:k=E
            ·have HS:Hid (kJw A E 0 (ts.take (k+1))=kJw A E 0 (ts.take k)):=Lib.hid (by rw [HTK3.out,kWw,HTL3.out,if_pos (by omega),List.append_nil])
             have e3:((k:Int)==E)=true:=by rw [beq_iff_eq];omega
             have e4:((k:Int) != E)=false:=by rw [bne,e3];rfl
             clear hkA hkE ht
             go_wp2_with fail
             go_roundw
             case rel=>exact⟨k+1,by omega,by go_num,by rw [HS.out];exact HR⟩
             case measure=>simp [intOf];omega
            ·have HS:Hid (kJw A E 0 (ts.take (k+1))=kJw A E 0 (ts.take k)++[t]):=Lib.hid (by rw [HTK3.out,kWw,HTL3.out,if_neg (by omega)])
             have e3:((k:Int)==E)=false:=by rw [beq_eq_false_iff_ne];omega
             have e4:((k:Int) != E)=true:=by rw [bne,e3];rfl
             obtain⟨d0,d1,d2,d3,d4⟩:=HAT.out.ext HR.out.up _ _ ht
             simp only [bs] at d1
             obtain⟨M,hM⟩:∃M,(kJw A E 0 (ts.take k)).length=M:=⟨_,rfl⟩
             have hMl:M≤65540:=by have h9:=omit2_len A E (ts.take k) 0;have h8:=HTL3.out;omega
             obtain⟨va,vc,hve,-⟩:=kJj HR.out.row
             rw [hM] at hve
             subst hve
             have HM:=Lib.hid hM
             have hrow:=(HR.out.ext ((Upto.refl [] wr).alloc (.cells #[.int .i64 (t.kind:Int),.string ⟨t.text.toArray⟩,.int .i64 (t.val:Int),.int .i64 (t.line:Int),.int .i64 (t.col:Int)] 83))).row
             have hsrc:=kQk (l:=tkC t) (kAq wr (.cells #[.int .i64 (t.kind:Int),.string ⟨t.text.toArray⟩,.int .i64 (t.val:Int),.int .i64 (t.line:Int),.int .i64 (t.col:Int)] 83))
             rw [hM] at hrow
             clear hkA hkE ht hM
             go_wp2_with (at_builtin;refine kHk _ rfl (.tmp 192) (.tmp 197) 74 rfl 83 it (.agg #[.int .i64 0,.string ⟨#[]⟩,.int .i64 0,.int .i64 0,.int .i64 0]) 5 48 Tryz.underlying74 HIt.out HAt.out HBt.out HCt.out rfl (by decide) (.slice va M vc) M ((kJw A E 0 (ts.take k)).flatMap tkC) rfl hrow ⟨wr.heap.size,0,none⟩ 1 1 (tkC t) rfl rfl hsrc tkC_one (by unfold maxLen;omega) (by omega) ?_;intro vb vd w4 ho4 hu4 hw4;have HR5:Hid (RowI WT 83 5 ((kJw A E 0 (ts.take (k+1))).flatMap tkC) (kJw A E 0 (ts.take (k+1))).length (.slice vb (M+1) vd) w4):=Lib.hid (by have h9:=HR.out;rw [HM.out] at h9;have h8:=h9.app ho4 hu4 hw4;rw [HS.out];simpa [HM.out] using h8);clear hrow hsrc ho4 hu4 hw4)
             go_roundw
             case rel=>exact⟨k+1,by omega,by go_num,HR5⟩
             case measure=>simp [intOf];omega
          ·have hgeI3:¬(k:Int)<n:=by omega
           have hkt:ts.take k=ts:=List.take_of_length_le (by rw [HNN.out];exact hge3)
           rw [hkt] at HR
           have HTO:=Lib.hid (Toks.of_row HR.out.row)
           obtain⟨va,vc,hve,-⟩:=kJj HR.out.row
           subst hve
           have HX7:=Lib.hid (HR.out.up.at HX6.out (by simp))
           have HUJ:=Lib.hid (HU6.out.trans_ext HR.out.up)
           have HDJ:=Lib.hid (HD6.out.trans_ext HR.out.up)
           clear hkt
           go_wp2_with fail
           refine (join_to HJ.out (by have h9:=omit2_len A E ts 0;have h8:=HNN.out;omega) (fun t ht=>by have h9:=HTL.out t (omit2_mem ht);omega) HTO.out (HEE.out _ HUJ.out)).mono ?_
           rintro e w8 ⟨rfl,hu8⟩
           rw [HJE.out]
           have HU8:=Lib.hid (HUJ.out.trans_ext hu8)
           have HV8:=Lib.hid hu8
           have HX8:=Lib.hid (hu8.at HX7.out (by simp))
           clear hu8
           go_wp2_with fail
           refine (parse_er _ HJL.out _ (HEE.out _ HU8.out)).mono ?_
           rintro e w9 ⟨v9,rfl,hq9,hu9⟩
           have hq9b:=QnV.keep (Keep.mono (fun b _ _=>(trivial:AnyB b))) hq9
           obtain⟨y1,y2,y3,yo,ya1,ya2,ya3,ys,yn,ym,yl1,yl2,yl3,rfl⟩:=hq9.seven
           have HQ9:=Lib.hid (QnV.keep (Keep.upto (((Upto.refl [] w9).alloc (.cells #[.slice y1 y2 y3,.int .i64 yo,.slice ya1 ya2 ya3,.int .i64 ys,.int .i64 yn,.int .i64 ym,.slice yl1 yl2 yl3] 48)).alloc (.cells #[.int .i64 (kGx kFw J).line,.int .i64 (kGx kFw J).col] 36)) (by simp)) hq9b)
           clear hq9 hq9b
           have ua9:Upto [] w9 ((w9.alloc (.cells #[.slice y1 y2 y3,.int .i64 yo,.slice ya1 ya2 ya3,.int .i64 ys,.int .i64 yn,.int .i64 ym,.slice yl1 yl2 yl3] 48)).alloc (.cells #[.int .i64 (kGx kFw J).line,.int .i64 (kGx kFw J).col] 36)):=(((Upto.refl [] w9).alloc _).alloc _)
           have HU9:=Lib.hid ((HU8.out.trans_ext hu9).trans_ext ua9)
           have HG9:=Lib.hid ua9
           have HE9:=Lib.hid (hu9.trans_ext ua9)
           have HX9:=Lib.hid ((hu9.trans_ext ua9).at HX8.out (by simp))
           have HY9:Hid (((w9.alloc (.cells #[.slice y1 y2 y3,.int .i64 yo,.slice ya1 ya2 ya3,.int .i64 ys,.int .i64 yn,.int .i64 ym,.slice yl1 yl2 yl3] 48)).alloc (.cells #[.int .i64 (kGx kFw J).line,.int .i64 (kGx kFw J).col] 36)).heap[w9.heap.size]?=some (.cells #[.slice y1 y2 y3,.int .i64 yo,.slice ya1 ya2 ya3,.int .i64 ys,.int .i64 yn,.int .i64 ym,.slice yl1 yl2 yl3] 48 (0,0))):=Lib.hid (kCx (kAq w9 _) _)
           have hx9:=HX9.out
           obtain⟨x0,x1,x2,x3,x4,x5,x6⟩:=kBw hx9
           clear hx9
           have hy9:=HY9.out
           obtain⟨y0,y1,y2,y3,y4,y5,y6⟩:=kBw hy9
           clear hy9
           clear hu9 ua9
           by_cases her:(kGx kFw J).er=0
           ·obtain⟨p1,p2,p3⟩:=parsed_val her
            have HEX:=Lib.hid (HQX.out _ (((HDJ.out.trans_ext HV8.out).trans_ext HE9.out)))
            have HEQ:=Lib.hid (equalq_ne HOK.out.2.1 HOK.out.1 HOK.out.2.2 p2 p1 p3 (fun h=>HNEQ.out her h.symm) HEX.out HQ9.out)
            rw [her]
            clear her p1 p2 p3
            go_wp2_with fail
            refine HEQ.out.mono ?_
            rintro e wz ⟨rfl,huz⟩
            have HUZ:=Lib.hid (HU9.out.trans_ext huz)
            clear huz
            go_wp2_with fail
            refine (HK.out _ HUZ.out).mono ?_
            rintro e wk ⟨rfl,huk⟩
            have HUK:=Lib.hid (HUZ.out.trans_ext huk)
            clear huk
            go_wp2_with fail
            go_ret
            exact⟨rfl,HUK.out⟩
           ·obtain⟨R,hR⟩:∃R,(kGx kFw J).er=R:=⟨_,rfl⟩
            rw [hR] at her ⊢
            have r1:((R:Int)==0)=false:=by rw [beq_eq_false_iff_ne];omega
            have r2:((R:Int) != 0)=true:=by rw [bne,r1];rfl
            clear her hR
            go_wp2_with fail
            refine (HK.out _ HU9.out).mono ?_
            rintro e wk ⟨rfl,huk⟩
            have HUK:=Lib.hid (HU9.out.trans_ext huk)
            clear huk
            go_wp2_with fail
            go_ret
            exact⟨rfl,HUK.out⟩
        ·have hD2:((D-1)==0)=false:=by rw [beq_eq_false_iff_ne];omega
         have hD3:((D-1) != 0)=true:=by rw [bne,hD2];rfl
         go_wp2_with fail
         go_roundw
         case rel=>exact⟨k+1,by omega,by omega,by go_num,rfl,by first | (rw [HBS.out];done) | (rw [HBS.out];rfl),Lib.hid (fun _=>by rw [HBS.out];have h9:=HPO.out;omega),HW⟩
         case measure=>simp [intOf];omega
       ·have HDP:Hid (dp t=0):=Lib.hid (by unfold dp;rw [if_neg h40,if_neg h41])
        rw [HDP.out,Int.add_zero] at HBS
        have e1:(t.text==[40])=false:=by simpa using h40
        have e2:(t.text != [40])=true:=by rw [bne,e1];rfl
        have e3:(t.text==[41])=false:=by simpa using h41
        have e4:(t.text != [41])=true:=by rw [bne,e3];rfl
        clear h40 h41
        generalize bal ((ts.drop A).take (k-A))=D at *
        have hDI:D≤70000:=by omega
        clear hbl
        by_cases hk4:t.kind=4
        ·have k4b:(t.kind:Int)=4:=by rw [hk4];rfl
         rw [k4b] at d0
         clear hk4 k4b
         go_wp2_with fail
         go_roundw
         case rel=>exact⟨k+1,by omega,by omega,by go_num,rfl,by first | (rw [HBS.out];done) | (rw [HBS.out];rfl),Lib.hid (fun _=>by rw [HBS.out];have h9:=HPO.out;omega),HW⟩
         case measure=>simp [intOf];omega
        ·have k4:((t.kind:Int)==4)=false:=by rw [beq_eq_false_iff_ne];omega
         have k5:((t.kind:Int) != 4)=true:=by rw [bne,k4];rfl
         clear hk4
         go_wp2_with fail
         go_roundw
         case rel=>exact⟨k+1,by omega,by omega,by go_num,rfl,by first | (rw [HBS.out];done) | (rw [HBS.out];rfl),Lib.hid (fun _=>by rw [HBS.out];have h9:=HPO.out;omega),HW⟩
         case measure=>simp [intOf];omega
     ·exfalso
      have hkn:k=n:=by omega
      have h1:=HPO.out (by omega)
      have h2:=bal_end HGQ.out HAL.out A
      rw [List.take_of_length_le (by rw [List.length_drop,HNN.out];omega)] at h1
      omega
   ·have hzI:(0:Int)<A:=by omega
    obtain⟨p0,-,-,-,-⟩:=HAT.out.ext HUA.out _ _ hp
    rw [hp1] at p0
    have HUW:=Lib.hid (HU6.out.trans_ext HUA.out)
    clear hp hp1
    go_wp2_with fail
    refine (HK.out _ HUW.out).mono ?_
    rintro e wk ⟨rfl,huk⟩
    have HUK:=Lib.hid (HUW.out.trans_ext huk)
    clear huk
    go_wp2_with fail
    go_ret
    exact⟨rfl,HUK.out⟩
   ·have hzI:(0:Int)<A:=by omega
    obtain⟨p0,-,-,-,-⟩:=HAT.out.ext HUA.out _ _ hp
    have p1:((p.kind:Int)==1)=false:=by rw [beq_eq_false_iff_ne];omega
    have p2:((p.kind:Int) != 1)=true:=by rw [bne,p1];rfl
    clear hp hp1 hz
    go_wp2_with fail
    clear p0 p1 p2
    clear a0 hmod
    go_loopw [14,15,16] (fun d e i wr=>∃k:Nat,A≤k∧k≤n∧i=.int .i64 k∧e=.int .i64 A∧d=.int .i64 (bal ((ts.drop A).take (k-A)))∧Hid (A<k→0<bal ((ts.drop A).take (k-A)))∧Hid (Upto [] WT wr)) (fun _ _ i _=>n-(intOf i).toNat)
    case atStart=>exact⟨A,Nat.le_refl _,by omega,rfl,rfl,by simp [bal],Lib.hid (by omega),HUA⟩
    case round =>
     obtain⟨k,hAk,hk,rfl,rfl,rfl,HPO,HW⟩:=hrel
     have hk0:(0:Int)≤k:=by omega
     have hbl:=bal_len ((ts.drop A).take (k-A))
     rw [List.length_take] at hbl
     have hb0:0≤bal ((ts.drop A).take (k-A)):=by
      rcases Nat.lt_or_ge A k with h | h
      ·have:=HPO.out h;omega
      ·rw [show k-A=0 by omega];simp [bal]
     rcases Nat.lt_or_ge k n with hlt | hge
     ·have hltI:(k:Int)<n:=by omega
      obtain⟨t,ht⟩:∃t,ts[k]?=some t:=⟨_,List.getElem?_eq_getElem (by rw [HNN.out];exact hlt)⟩
      obtain⟨d0,d1,-,-,-⟩:=HAT.out.ext HW.out _ _ ht
      simp only [bs] at d1
      have HBS:=Lib.hid (bal_step hAk ht)
      have HT:=Lib.hid ht
      clear ht
      by_cases h40:t.text=[40]
      ·have hk4:=HPK.out t (List.mem_of_getElem? HT.out) (by unfold dp;rw [if_pos h40];decide)
       have HDP:Hid (dp t=1):=Lib.hid (by unfold dp;rw [if_pos h40])
       rw [HDP.out] at HBS
       have k4b:(t.kind:Int)=4:=by rw [hk4];rfl
       rw [k4b] at d0
       rw [h40] at d1
       clear k4b hk4 h40
       generalize bal ((ts.drop A).take (k-A))=D at *
       have hDI:D≤70000:=by omega
       clear hbl
       go_wp2_with fail
       go_roundw
       case rel=>exact⟨k+1,by omega,by omega,by go_num,rfl,by first | (rw [HBS.out];done) | (rw [HBS.out];rfl),Lib.hid (fun _=>by rw [HBS.out];have h9:=HPO.out;omega),HW⟩
       case measure=>simp [intOf];omega
      ·have hAk2:A<k:=by
        rcases Nat.lt_or_ge A k with h | h
        ·exact h
        ·exfalso
         have:k=A:=by omega
         subst this
         rw [HTA.out.1] at HT
         exact h40 ((Option.some.inj HT.out)▸HTA.out.2)
       have hpos:=HPO.out hAk2
       by_cases h41:t.text=[41]
       ·have hk4:=HPK.out t (List.mem_of_getElem? HT.out) (by unfold dp;rw [if_neg h40,if_pos h41];decide)
        have HDP:Hid (dp t=-1):=Lib.hid (by unfold dp;rw [if_neg h40,if_pos h41])
        rw [HDP.out] at HBS
        have HLT:=Lib.hid (last_text HAL.out HT.out (by rw [h41];simp))
        have k4b:(t.kind:Int)=4:=by rw [hk4];rfl
        rw [k4b] at d0
        rw [h41] at d1
        clear k4b hk4 h40 h41
        generalize bal ((ts.drop A).take (k-A))=D at *
        have hDI:D≤70000:=by omega
        clear hbl
        by_cases hD1:D=1
        ·subst hD1
         clear hb0 hpos
         obtain⟨E,rfl⟩:∃E,E=k:=⟨_,rfl⟩
         have HW2:=Lib.hid HW.out
         obtain⟨xs,hj,hjl,hne⟩:=HGQ.out.omit HAL.out HTA.out.1 HTA.out.2 hAk2 HLT.out
         have HJ:=Lib.hid hj
         obtain⟨J,hJ⟩:∃J,Lib.join xs [32]=J:=⟨_,rfl⟩
         rw [hJ] at hjl hne
         have HJE:=Lib.hid hJ
         have HJL:Hid (J.length≤281474976710656):=Lib.hid (by omega)
         have HNEQ:=Lib.hid hne
         have hEA:(A:Int)<E:=by omega
         have hE0:(0:Int)≤E:=by omega
         clear hj hjl hne hJ HPO HBS HDP HLT HT
         go_wp2_with fail
         clear d0 d1
         go_loopw [17,18] (fun l i wr=>∃k:Nat,k≤n∧i=.int .i64 k∧Hid (RowI WT 83 5 ((kJw A E 0 (ts.take k)).flatMap tkC) (kJw A E 0 (ts.take k)).length l wr)) (fun _ i _=>n-(intOf i).toNat)
         case atStart=>exact⟨0,by omega,rfl,Lib.hid (by have h9:=RowI.start HW2.out 83 5;simpa [kJw] using h9)⟩
         case round =>
          obtain⟨k,hk3,rfl,HR⟩:=hrel
          have hk30:(0:Int)≤k:=by omega
          rcases Nat.lt_or_ge k n with hlt3 | hge3
          ·have hltI3:(k:Int)<n:=by omega
           obtain⟨t,ht⟩:∃t,ts[k]?=some t:=⟨_,List.getElem?_eq_getElem (by rw [HNN.out];exact hlt3)⟩
           have HTK3:Hid (ts.take (k+1)=ts.take k++[t]):=Lib.hid (by
            obtain⟨hi,h2⟩:=List.getElem?_eq_some_iff.1 ht
            rw [List.take_succ_eq_append_getElem hi,h2])
           have HTL3:Hid ((ts.take k).length=k):=Lib.hid (by rw [List.length_take,HNN.out];omega)
           by_cases hkA:k=A
           ·have HS:Hid (kJw A E 0 (ts.take (k+1))=kJw A E 0 (ts.take k)):=Lib.hid (by rw [HTK3.out,kWw,HTL3.out,if_pos (by omega),List.append_nil])
            have e1:((k:Int)==A)=true:=by rw [beq_iff_eq];omega
            have e2:((k:Int) != A)=false:=by rw [bne,e1];rfl
            clear hkA ht
            go_wp2_with fail
            go_roundw
            case rel=>exact⟨k+1,by omega,by go_num,by rw [HS.out];exact HR⟩
            case measure=>simp [intOf];omega
           ·have e1:((k:Int)==A)=false:=by rw [beq_eq_false_iff_ne];omega
            have e2:((k:Int) != A)=true:=by rw [bne,e1];rfl
            by_cases hkE:k=E
            ·have HS:Hid (kJw A E 0 (ts.take (k+1))=kJw A E 0 (ts.take k)):=Lib.hid (by rw [HTK3.out,kWw,HTL3.out,if_pos (by omega),List.append_nil])
             have e3:((k:Int)==E)=true:=by rw [beq_iff_eq];omega
             have e4:((k:Int) != E)=false:=by rw [bne,e3];rfl
             clear hkA hkE ht
             go_wp2_with fail
             go_roundw
             case rel=>exact⟨k+1,by omega,by go_num,by rw [HS.out];exact HR⟩
             case measure=>simp [intOf];omega
            ·have HS:Hid (kJw A E 0 (ts.take (k+1))=kJw A E 0 (ts.take k)++[t]):=Lib.hid (by rw [HTK3.out,kWw,HTL3.out,if_neg (by omega)])
             have e3:((k:Int)==E)=false:=by rw [beq_eq_false_iff_ne];omega
             have e4:((k:Int) != E)=true:=by rw [bne,e3];rfl
             obtain⟨d0,d1,d2,d3,d4⟩:=HAT.out.ext HR.out.up _ _ ht
             simp only [bs] at d1
             obtain⟨M,hM⟩:∃M,(kJw A E 0 (ts.take k)).length=M:=⟨_,rfl⟩
             have hMl:M≤65540:=by have h9:=omit2_len A E (ts.take k) 0;have h8:=HTL3.out;omega
             obtain⟨va,vc,hve,-⟩:=kJj HR.out.row
             rw [hM] at hve
             subst hve
             have HM:=Lib.hid hM
             have hrow:=(HR.out.ext ((Upto.refl [] wr).alloc (.cells #[.int .i64 (t.kind:Int),.string ⟨t.text.toArray⟩,.int .i64 (t.val:Int),.int .i64 (t.line:Int),.int .i64 (t.col:Int)] 83))).row
             have hsrc:=kQk (l:=tkC t) (kAq wr (.cells #[.int .i64 (t.kind:Int),.string ⟨t.text.toArray⟩,.int .i64 (t.val:Int),.int .i64 (t.line:Int),.int .i64 (t.col:Int)] 83))
             rw [hM] at hrow
             clear hkA hkE ht hM
             go_wp2_with (at_builtin;refine kHk _ rfl (.tmp 192) (.tmp 197) 74 rfl 83 it (.agg #[.int .i64 0,.string ⟨#[]⟩,.int .i64 0,.int .i64 0,.int .i64 0]) 5 48 Tryz.underlying74 HIt.out HAt.out HBt.out HCt.out rfl (by decide) (.slice va M vc) M ((kJw A E 0 (ts.take k)).flatMap tkC) rfl hrow ⟨wr.heap.size,0,none⟩ 1 1 (tkC t) rfl rfl hsrc tkC_one (by unfold maxLen;omega) (by omega) ?_;intro vb vd w4 ho4 hu4 hw4;have HR5:Hid (RowI WT 83 5 ((kJw A E 0 (ts.take (k+1))).flatMap tkC) (kJw A E 0 (ts.take (k+1))).length (.slice vb (M+1) vd) w4):=Lib.hid (by have h9:=HR.out;rw [HM.out] at h9;have h8:=h9.app ho4 hu4 hw4;rw [HS.out];simpa [HM.out] using h8);clear hrow hsrc ho4 hu4 hw4)
             go_roundw
             case rel=>exact⟨k+1,by omega,by go_num,HR5⟩
             case measure=>simp [intOf];omega
          ·have hgeI3:¬(k:Int)<n:=by omega
           have hkt:ts.take k=ts:=List.take_of_length_le (by rw [HNN.out];exact hge3)
           rw [hkt] at HR
           have HTO:=Lib.hid (Toks.of_row HR.out.row)
           obtain⟨va,vc,hve,-⟩:=kJj HR.out.row
           subst hve
           have HX7:=Lib.hid (HR.out.up.at HX6.out (by simp))
           have HUJ:=Lib.hid (HU6.out.trans_ext HR.out.up)
           have HDJ:=Lib.hid (HD6.out.trans_ext HR.out.up)
           clear hkt
           go_wp2_with fail
           refine (join_to HJ.out (by have h9:=omit2_len A E ts 0;have h8:=HNN.out;omega) (fun t ht=>by have h9:=HTL.out t (omit2_mem ht);omega) HTO.out (HEE.out _ HUJ.out)).mono ?_
           rintro e w8 ⟨rfl,hu8⟩
           rw [HJE.out]
           have HU8:=Lib.hid (HUJ.out.trans_ext hu8)
           have HV8:=Lib.hid hu8
           have HX8:=Lib.hid (hu8.at HX7.out (by simp))
           clear hu8
           go_wp2_with fail
           refine (parse_er _ HJL.out _ (HEE.out _ HU8.out)).mono ?_
           rintro e w9 ⟨v9,rfl,hq9,hu9⟩
           have hq9b:=QnV.keep (Keep.mono (fun b _ _=>(trivial:AnyB b))) hq9
           obtain⟨y1,y2,y3,yo,ya1,ya2,ya3,ys,yn,ym,yl1,yl2,yl3,rfl⟩:=hq9.seven
           have HQ9:=Lib.hid (QnV.keep (Keep.upto (((Upto.refl [] w9).alloc (.cells #[.slice y1 y2 y3,.int .i64 yo,.slice ya1 ya2 ya3,.int .i64 ys,.int .i64 yn,.int .i64 ym,.slice yl1 yl2 yl3] 48)).alloc (.cells #[.int .i64 (kGx kFw J).line,.int .i64 (kGx kFw J).col] 36)) (by simp)) hq9b)
           clear hq9 hq9b
           have ua9:Upto [] w9 ((w9.alloc (.cells #[.slice y1 y2 y3,.int .i64 yo,.slice ya1 ya2 ya3,.int .i64 ys,.int .i64 yn,.int .i64 ym,.slice yl1 yl2 yl3] 48)).alloc (.cells #[.int .i64 (kGx kFw J).line,.int .i64 (kGx kFw J).col] 36)):=(((Upto.refl [] w9).alloc _).alloc _)
           have HU9:=Lib.hid ((HU8.out.trans_ext hu9).trans_ext ua9)
           have HG9:=Lib.hid ua9
           have HE9:=Lib.hid (hu9.trans_ext ua9)
           have HX9:=Lib.hid ((hu9.trans_ext ua9).at HX8.out (by simp))
           have HY9:Hid (((w9.alloc (.cells #[.slice y1 y2 y3,.int .i64 yo,.slice ya1 ya2 ya3,.int .i64 ys,.int .i64 yn,.int .i64 ym,.slice yl1 yl2 yl3] 48)).alloc (.cells #[.int .i64 (kGx kFw J).line,.int .i64 (kGx kFw J).col] 36)).heap[w9.heap.size]?=some (.cells #[.slice y1 y2 y3,.int .i64 yo,.slice ya1 ya2 ya3,.int .i64 ys,.int .i64 yn,.int .i64 ym,.slice yl1 yl2 yl3] 48 (0,0))):=Lib.hid (kCx (kAq w9 _) _)
           have hx9:=HX9.out
           obtain⟨x0,x1,x2,x3,x4,x5,x6⟩:=kBw hx9
           clear hx9
           have hy9:=HY9.out
           obtain⟨y0,y1,y2,y3,y4,y5,y6⟩:=kBw hy9
           clear hy9
           clear hu9 ua9
           by_cases her:(kGx kFw J).er=0
           ·obtain⟨p1,p2,p3⟩:=parsed_val her
            have HEX:=Lib.hid (HQX.out _ (((HDJ.out.trans_ext HV8.out).trans_ext HE9.out)))
            have HEQ:=Lib.hid (equalq_ne HOK.out.2.1 HOK.out.1 HOK.out.2.2 p2 p1 p3 (fun h=>HNEQ.out her h.symm) HEX.out HQ9.out)
            rw [her]
            clear her p1 p2 p3
            go_wp2_with fail
            refine HEQ.out.mono ?_
            rintro e wz ⟨rfl,huz⟩
            have HUZ:=Lib.hid (HU9.out.trans_ext huz)
            clear huz
            go_wp2_with fail
            refine (HK.out _ HUZ.out).mono ?_
            rintro e wk ⟨rfl,huk⟩
            have HUK:=Lib.hid (HUZ.out.trans_ext huk)
            clear huk
            go_wp2_with fail
            go_ret
            exact⟨rfl,HUK.out⟩
           ·obtain⟨R,hR⟩:∃R,(kGx kFw J).er=R:=⟨_,rfl⟩
            rw [hR] at her ⊢
            have r1:((R:Int)==0)=false:=by rw [beq_eq_false_iff_ne];omega
            have r2:((R:Int) != 0)=true:=by rw [bne,r1];rfl
            clear her hR
            go_wp2_with fail
            refine (HK.out _ HU9.out).mono ?_
            rintro e wk ⟨rfl,huk⟩
            have HUK:=Lib.hid (HU9.out.trans_ext huk)
            clear huk
            go_wp2_with fail
            go_ret
            exact⟨rfl,HUK.out⟩
        ·have hD2:((D-1)==0)=false:=by rw [beq_eq_false_iff_ne];omega
         have hD3:((D-1) != 0)=true:=by rw [bne,hD2];rfl
         go_wp2_with fail
         go_roundw
         case rel=>exact⟨k+1,by omega,by omega,by go_num,rfl,by first | (rw [HBS.out];done) | (rw [HBS.out];rfl),Lib.hid (fun _=>by rw [HBS.out];have h9:=HPO.out;omega),HW⟩
         case measure=>simp [intOf];omega
       ·have HDP:Hid (dp t=0):=Lib.hid (by unfold dp;rw [if_neg h40,if_neg h41])
        rw [HDP.out,Int.add_zero] at HBS
        have e1:(t.text==[40])=false:=by simpa using h40
        have e2:(t.text != [40])=true:=by rw [bne,e1];rfl
        have e3:(t.text==[41])=false:=by simpa using h41
        have e4:(t.text != [41])=true:=by rw [bne,e3];rfl
        clear h40 h41
        generalize bal ((ts.drop A).take (k-A))=D at *
        have hDI:D≤70000:=by omega
        clear hbl
        by_cases hk4:t.kind=4
        ·have k4b:(t.kind:Int)=4:=by rw [hk4];rfl
         rw [k4b] at d0
         clear hk4 k4b
         go_wp2_with fail
         go_roundw
         case rel=>exact⟨k+1,by omega,by omega,by go_num,rfl,by first | (rw [HBS.out];done) | (rw [HBS.out];rfl),Lib.hid (fun _=>by rw [HBS.out];have h9:=HPO.out;omega),HW⟩
         case measure=>simp [intOf];omega
        ·have k4:((t.kind:Int)==4)=false:=by rw [beq_eq_false_iff_ne];omega
         have k5:((t.kind:Int) != 4)=true:=by rw [bne,k4];rfl
         clear hk4
         go_wp2_with fail
         go_roundw
         case rel=>exact⟨k+1,by omega,by omega,by go_num,rfl,by first | (rw [HBS.out];done) | (rw [HBS.out];rfl),Lib.hid (fun _=>by rw [HBS.out];have h9:=HPO.out;omega),HW⟩
         case measure=>simp [intOf];omega
     ·exfalso
      have hkn:k=n:=by omega
      have h1:=HPO.out (by omega)
      have h2:=bal_end HGQ.out HAL.out A
      rw [List.take_of_length_le (by rw [List.length_drop,HNN.out];omega)] at h1
      omega
end Go.Proofs.YtkhbpebpljdifaaGreatDoor
