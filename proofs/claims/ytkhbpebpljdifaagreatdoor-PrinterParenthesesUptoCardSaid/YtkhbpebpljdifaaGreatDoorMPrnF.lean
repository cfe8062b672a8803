/- Merged texts. -/
import Derived.Test.YtkhbpebpljdifaaGreatDoorMPri
set_option maxRecDepth 100000
set_option maxHeartbeats 25600000
namespace Go.PL
theorem NumI.start (k:Nat):NumI k [] k:=⟨by simp,by simp [kQw],fun _ h=>absurd rfl h,Or.inl (by simp)⟩
end Go.PL
namespace Go.Proofs.YtkhbpebpljdifaaGreatDoor
open Go.PL
theorem lvs_get (last:Bool):∀(l:List Nd) (i:Nat),(∀x∈l,lvF last x≤2*kNw x)→(lvsF last l).getD i 0≤2*kLz l
 | [],i,_=>by simp [lvsF]
 | x::xs,0,h=>by
  have:=h x (by simp)
  simp only [lvsF,List.getD_cons_zero,kLz]
  omega
 | x::xs,i+1,h=>by
  have:=lvs_get last xs i (fun y hy=>h y (by simp [hy]))
  simp only [lvsF,List.getD_cons_succ,kLz]
  omega
theorem parL_le (b:Bool) (t u:Nat):parL b t u≤max (1+t) u:=by
 cases b
 ·simp only [parL,if_false,Bool.false_eq_true];omega
 ·simp only [parL,if_true];omega
theorem lv_le:∀(k:Nat) (nd:Nd),kCz nd≤k→∀last,lvF last nd≤2*kNw nd
 | 0,nd,hn,_=>by have:=kRw nd;omega
 | k+1,.mk op names so n m ls,hn,last=>by
  unfold kCz at hn
  have hall:∀(last:Bool),∀x∈ls,lvF last x≤2*kNw x:=fun last x hx=>lv_le k x (by have:=sizes_mem hx;omega) last
  have hg:=fun last i=>lvs_get last ls i (hall last)
  unfold lvF kNw
  have h00:=hg true 0
  have h01:=hg true 1
  have h10:=hg false 0
  have h11:=hg last 0
  have h12:=hg last 1
  have p1:=parL_le (parB 11 0 (opNd ls 0) last) ((lvsF true ls).getD 0 0) ((lvsF last ls).getD 0 0)
  have p2:=parL_le (parB op 0 (opNd ls 0) false) ((lvsF true ls).getD 0 0) ((lvsF false ls).getD 0 0)
  have p3:=parL_le (parB op 1 (opNd ls 1) last) ((lvsF true ls).getD 1 0) ((lvsF last ls).getD 1 0)
  by_cases h1:op<11
  ·rw [if_pos h1];omega
  rw [if_neg h1]
  by_cases h2:op=11
  ·rw [if_pos h2];omega
  rw [if_neg h2]
  by_cases h3:op<16
  ·rw [if_pos h3];omega
  ·rw [if_neg h3];omega
theorem lv_false:∀(k:Nat) (nd:Nd),kCz nd≤k→lvF false nd≤1+lvF true nd
 | 0,nd,hn=>by have:=kRw nd;omega
 | k+1,.mk op names so n m ls,hn=>by
  unfold kCz at hn
  have child:∀(op:Int) (place i:Nat),parL (parB op place (opNd ls i) false) ((lvsF true ls).getD i 0) ((lvsF false ls).getD i 0)≤1+parL (parB op place (opNd ls i) true) ((lvsF true ls).getD i 0) ((lvsF true ls).getD i 0):=by
   intro op place i
   have h1:(lvsF false ls).getD i 0≤1+(lvsF true ls).getD i 0:=by
    have key:∀(l:List Nd),(∀x∈l,kCz x≤k)→∀i,(lvsF false l).getD i 0≤1+(lvsF true l).getD i 0:=by
     intro l
     induction l with
     | nil=>intro _ i;simp [lvsF]
     | cons x xs ih =>
      intro h i
      cases i with
      | zero=>simpa [lvsF] using lv_false k x (h x (by simp))
      | succ i=>simpa [lvsF] using ih (fun y hy=>h y (by simp [hy])) i
    exact key ls (fun x hx=>by have:=sizes_mem hx;omega) i
   generalize (lvsF false ls).getD i 0=A at h1 ⊢
   generalize (lvsF true ls).getD i 0=B at h1 ⊢
   unfold parB parL
   simp only [Bool.not_true,Bool.and_false,Bool.or_false,Bool.not_false,Bool.and_true]
   cases kMz op place (opNd ls i)<;>cases decide (15<opNd ls i)<;>simp<;>omega
  unfold lvF
  by_cases h1:op<11
  ·rw [if_pos h1,if_pos h1];omega
  rw [if_neg h1,if_neg h1]
  by_cases h2:op=11
  ·rw [if_pos h2,if_pos h2]
   have:=child 11 0 0
   omega
  rw [if_neg h2,if_neg h2]
  by_cases h3:op<16
  ·rw [if_pos h3,if_pos h3]
   have:=child op 1 1
   omega
  ·rw [if_neg h3,if_neg h3];omega
def fits (b:Nat) (last:Bool) (n:Nd) (D:Nat):Prop:=(b<levF (opF n)∨(15<opF n∧last=false)→D+1+lvF true n≤256)∧(¬(b<levF (opF n)∨(15<opF n∧last=false))→D+lvF last n≤256)
theorem fits_par {n:Nd} {D:Nat} (h:D+1+lvF true n≤256) (b:Nat) (last:Bool):fits b last n D:=by
 refine⟨fun _=>h,fun _=>?_⟩
 cases last with
 | true=>omega
 | false=>have:=lv_false _ n (Nat.le_refl _);omega
theorem fits_raise {n:Nd} {D b b':Nat} {last:Bool} (h:fits b last n D) (hb:b≤b'):fits b' last n D:=by
 by_cases h1:b<levF (opF n)∨(15<opF n∧last=false)
 ·exact fits_par (h.1 h1) b' last
 ·refine⟨fun h2=>absurd ?_ h1,fun _=>h.2 h1⟩
  rcases h2 with h2 | h2
  ·exact Or.inl (by omega)
  ·exact Or.inr h2
theorem fits_parL {op:Int} {place:Nat} {c:Nd} {D b:Nat} {last:Bool} (hp:kMz op place (opF c)=decide (b<levF (opF c))) (h:fits b last c D):D+parL (parB op place (opF c) last) (lvF true c) (lvF last c)≤256:=by
 unfold parB
 rw [hp]
 by_cases h1:b<levF (opF c)∨(15<opF c∧last=false)
 ·have:(decide (b<levF (opF c))||(decide (15<opF c)&&!last))=true:=by
   rcases h1 with h1 | ⟨h1,h2⟩
   ·simp [h1]
   ·simp [h1,h2]
  rw [this]
  have:=h.1 h1
  simp only [parL,if_true]
  omega
 ·have:(decide (b<levF (opF c))||(decide (15<opF c)&&!last))=false:=by
   simp only [not_or,not_and] at h1
   simp only [Bool.or_eq_false_iff,Bool.and_eq_false_iff,decide_eq_false_iff_not,Bool.not_eq_false']
   refine⟨h1.1,?_⟩
   by_cases h2:15<opF c
   ·exact Or.inr (by have:=h1.2 h2;simpa using this)
   ·exact Or.inl h2
  rw [this]
  exact h.2 h1
def lvl0 (c:Nat):Nat:=if c=2 then 2 else c+1
def lvl1 (c:Nat):Nat:=if c=2 then 3 else c
theorem need0 {c:Nat} (hc:c<4) (k:Int):kMz (12+c) 0 k=decide (lvl0 c<levF k):=by
 have hcc:c=0∨c=1∨c=2∨c=3:=by omega
 by_cases g:k<11∨15<k
 ·have h0:levF k=0:=by unfold levF;rw [if_neg (by omega),if_neg (by omega),if_neg (by omega),if_neg (by omega)]
  rw [h0]
  unfold kMz
  rw [if_pos g]
  simp
 ·have hk:k=11∨k=12∨k=13∨k=14∨k=15:=by omega
  rcases hcc with rfl | rfl | rfl | rfl<;>rcases hk with rfl | rfl | rfl | rfl | rfl<;>rfl
theorem need1 {c:Nat} (hc:c<4) (k:Int):kMz (12+c) 1 k=decide (lvl1 c<levF k):=by
 have hcc:c=0∨c=1∨c=2∨c=3:=by omega
 by_cases g:k<11∨15<k
 ·have h0:levF k=0:=by unfold levF;rw [if_neg (by omega),if_neg (by omega),if_neg (by omega),if_neg (by omega)]
  rw [h0]
  unfold kMz
  rw [if_pos g]
  simp
 ·have hk:k=11∨k=12∨k=13∨k=14∨k=15:=by omega
  rcases hcc with rfl | rfl | rfl | rfl<;>rcases hk with rfl | rfl | rfl | rfl | rfl<;>rfl
theorem needN (k:Int):kMz 11 0 k=decide (0<levF k):=by
 by_cases g:k<11∨15<k
 ·have h0:levF k=0:=by unfold levF;rw [if_neg (by omega),if_neg (by omega),if_neg (by omega),if_neg (by omega)]
  rw [h0]
  unfold kMz
  rw [if_pos g]
  simp
 ·have hk:k=11∨k=12∨k=13∨k=14∨k=15:=by omega
  rcases hk with rfl | rfl | rfl | rfl | rfl<;>rfl
theorem levF_con {c:Nat} (hc:c<4):levF (12+c)=c+1:=by
 have hcc:c=0∨c=1∨c=2∨c=3:=by omega
 rcases hcc with rfl | rfl | rfl | rfl<;>rfl
theorem fits_bin {c:Nat} (hc:c<4) {a b:Nd} {D lv:Nat} {last:Bool} (hlv:c+1≤lv) (ha:fits (lvl0 c) false a D) (hb:fits (lvl1 c) last b D):fits lv last (.mk (12+c) [] 0 0 0 [a,b]) D:=by
 refine⟨fun h=>?_,fun _=>?_⟩
 ·simp only [opF,levF_con hc] at h
  omega
 ·have h0:=fits_parL (op:=12+c) (place:=0) (need0 hc _) ha
  have h1:=fits_parL (op:=12+c) (place:=1) (need1 hc _) hb
  unfold lvF
  rw [if_neg (by omega),if_neg (by omega),if_pos (by omega)]
  simp only [lvsF,opNd,List.map_cons,List.map_nil,List.getD_cons_zero,List.getD_cons_succ]
  omega
theorem fits_not {a:Nd} {D:Nat} {last:Bool} (ha:fits 0 last a (D+1)):fits 0 last (.mk 11 [] 0 0 0 [a]) D:=by
 refine⟨fun h=>?_,fun _=>?_⟩
 ·simp only [opF] at h
  have:levF 11=0:=rfl
  omega
 ·have h0:=fits_parL (op:=11) (place:=0) (needN _) ha
  unfold lvF
  rw [if_neg (by omega),if_pos rfl]
  simp only [lvsF,opNd,List.map_cons,List.map_nil,List.getD_cons_zero]
  omega
theorem fits_atom {op so n m:Int} {names:List (List UInt8)} {ls:List Nd} {D:Nat} (hop:op<11) (hD:D≤256) (b:Nat) (last:Bool):fits b last (.mk op names so n m ls) D:=by
 refine⟨fun h=>?_,fun _=>?_⟩
 ·simp only [opF] at h
  have:levF op=0:=by unfold levF;rw [if_neg (by omega),if_neg (by omega),if_neg (by omega),if_neg (by omega)]
  omega
 ·unfold lvF
  rw [if_pos hop]
  exact hD
def NoOp (l:List PL.Tok) (b:Nat) (s:PS):Prop:=∀c,c<b→isF l (opWd c) s=false
structure GoodN (l:List PL.Tok) (b:Nat) (s:PS) (n:Nd) (s':PS):Prop where
 er:s.er=0
 dp:s'.dp=s.dp
 ok:okF n
 fit:fits b true n s.dp
 clo:fits b false n s.dp∨NoOp l 4 s'
 no:NoOp l b s'
def GoodP (l:List PL.Tok) (b:Nat) (of:Rd):Prop:=∀s n s',s.dp≤256→of s=some (n,s')→s'.er=0→GoodN l b s n s'
theorem ok_two {op:Int} (h1:12≤op) (h2:op<16) {a b:Nd} (ha:okF a) (hb:okF b):okF (.mk op [] 0 0 0 [a,b]):=by
 unfold okF oksF oksF oksF
 exact⟨by simp,Or.inr (Or.inr (Or.inr (Or.inr (Or.inr (Or.inr (Or.inr (Or.inl ⟨h1,h2,rfl,rfl,rfl,rfl,rfl⟩))))))),ha,hb,trivial⟩
theorem kQx {l:List PL.Tok} {x:List UInt8} {s:PS} (h:isF l x s=true):s.er=0:=by
 unfold isF at h
 simp only [Bool.and_eq_true,decide_eq_true_eq] at h
 exact h.1.1
section
variable {l:List PL.Tok} {of:Rd}
theorem leftLoop_good {c:Nat} (hc:c<4) (hc2:c≠2) (ho:GoodP l c of):∀(k:Nat) (n0:Nd) (s:PS) (n:Nd) (s':PS),s.dp≤256→okF n0→fits (c+1) true n0 s.dp→(fits (c+1) false n0 s.dp∨NoOp l 4 s)→NoOp l c s →
  kIq l (opWd c) (12+c) of k n0 s=some (n,s')→s'.er=0→GoodN l (c+1) s n s'
 | 0,_,_,_,_,_,_,_,_,_,h,_=>by cases h
 | k+1,n0,s,n,s',hd,h1,h2,h3,h4,h,he=>by
  unfold kIq at h
  by_cases hx:isF l (opWd c) s=true
  ·rw [if_pos hx] at h
   simp only [Option.bind_eq_some_iff] at h
   obtain⟨⟨m,s2⟩,g1,g2⟩:=h
   have hcl:fits (c+1) false n0 s.dp:=by
    rcases h3 with h3 | h3
    ·exact h3
    ·have:=h3 c hc;rw [hx] at this;cases this
   have hs2:s2.er=0:=by
    cases hq:kIq l (opWd c) (12+c) of k (.mk (12+c) [] 0 0 0 [n0,m]) s2 with
    | none=>rw [hq] at g2;cases g2
    | some r =>
     by_cases h0:s2.er=0
     ·exact h0
     ·have hno:isF l (opWd c) s2=false:=by unfold isF;simp [h0]
      cases k with
      | zero=>cases g2
      | succ k =>
       unfold kIq at g2
       rw [hno] at g2
       simp at g2
       rw [←g2.2] at he
       exact absurd he h0
   have hm:=ho (kBx s) m s2 hd g1 hs2
   have hsd:s2.dp=s.dp:=hm.dp
   have hm3:fits (lvl1 c) true m s.dp:=by
    have e:lvl1 c=c:=by unfold lvl1;rw [if_neg hc2]
    rw [e];exact hm.fit
   have e0:lvl0 c=c+1:=by unfold lvl0;rw [if_neg hc2]
   have r:=leftLoop_good hc hc2 ho k (.mk (12+c) [] 0 0 0 [n0,m]) s2 n s' (by rw [hsd];exact hd) (ok_two (by omega) (by omega) h1 hm.ok)
    (by rw [hsd];exact fits_bin hc (Nat.le_refl _) (by rw [e0];exact hcl) hm3)
    (by
     rcases hm.clo with q | q
     ·exact Or.inl (by rw [hsd];exact fits_bin hc (Nat.le_refl _) (by rw [e0];exact hcl) (by
       have e:lvl1 c=c:=by unfold lvl1;rw [if_neg hc2]
       rw [e];exact q))
     ·exact Or.inr q) hm.no g2 he
   have hdd:s2.dp=s.dp:=hsd
   exact⟨kQx hx,by rw [r.dp,hdd],r.ok,by rw [←hdd];exact r.fit,by rw [←hdd];exact r.clo,r.no⟩
  ·rw [if_neg hx] at h
   simp only [Option.some.injEq,Prod.mk.injEq] at h
   obtain⟨rfl,rfl⟩:=h
   refine⟨he,rfl,h1,h2,h3,fun q hq=>?_⟩
   by_cases hqc:q=c
   ·subst hqc;simpa using hx
   ·exact h4 q (by omega)
theorem leftP_good {c:Nat} (hc:c<4) (hc2:c≠2) (ho:GoodP l c of):GoodP l (c+1) (leftP l (opWd c) (12+c) of):=by
 intro s n s' hd h he
 unfold leftP at h
 simp only [Option.bind_eq_some_iff] at h
 obtain⟨⟨m,s1⟩,h1,h2⟩:=h
 have hs1:s1.er=0:=by
  by_cases h0:s1.er=0
  ·exact h0
  ·have hno:isF l (opWd c) s1=false:=by unfold isF;simp [h0]
   simp only [kIq] at h2
   rw [hno] at h2
   simp at h2
   rw [←h2.2] at he
   exact absurd he h0
 have hm:=ho s m s1 hd h1 hs1
 have r:=leftLoop_good hc hc2 ho _ m s1 n s' (by rw [hm.dp];exact hd) hm.ok (by rw [hm.dp];exact fits_raise hm.fit (Nat.le_succ _)) (by
  rw [hm.dp]
  rcases hm.clo with q | q
  ·exact Or.inl (fits_raise q (Nat.le_succ _))
  ·exact Or.inr q) hm.no h2 he
 exact⟨hm.er,by rw [r.dp,hm.dp],r.ok,by rw [←hm.dp];exact r.fit,by rw [←hm.dp];exact r.clo,r.no⟩
def GoodL (l:List PL.Tok) (D:Nat) (s:PS) (acc:List Nd):Prop:=∃ini x,acc=ini++[x]∧(∀y∈ini,okF y∧fits 2 false y D)∧okF x∧fits 2 true x D∧(fits 2 false x D∨NoOp l 4 s)
theorem implFold_good {D:Nat} {s:PS}:∀(ini:List Nd) (x:Nd),(∀y∈ini,okF y∧fits 2 false y D)→okF x→fits 2 true x D→(fits 2 false x D∨NoOp l 4 s) →
  okF (kJz (ini++[x]))∧fits 3 true (kJz (ini++[x])) D∧(fits 3 false (kJz (ini++[x])) D∨NoOp l 4 s)
 | [],x,_,h1,h2,h3=>⟨h1,fits_raise h2 (by decide),h3.imp (fun h=>fits_raise h (by decide)) id⟩
 | y::ini,x,h0,h1,h2,h3=>by
  obtain⟨i1,i2,i3⟩:=implFold_good ini x (fun z hz=>h0 z (by simp [hz])) h1 h2 h3
  have hy:=h0 y (by simp)
  have e:kJz ((y::ini)++[x])=.mk 14 [] 0 0 0 [y,kJz (ini++[x])]:=by
   cases ini<;>rfl
  rw [e]
  exact⟨ok_two (by decide) (by decide) hy.1 i1,fits_bin (c:=2) (by decide) (Nat.le_refl _) hy.2 i2,i3.imp (fun h=>fits_bin (c:=2) (by decide) (Nat.le_refl _) hy.2 h) id⟩
theorem implLoop_good (ho:GoodP l 2 of):∀(k:Nat) (acc:List Nd) (s:PS) (r:List Nd) (s':PS),s.dp≤256→GoodL l s.dp s acc→NoOp l 2 s→kJq l of k acc s=some (r,s')→s'.er=0→s.er=0∧s'.dp=s.dp∧GoodL l s.dp s' r∧NoOp l 3 s'
 | 0,_,_,_,_,_,_,_,h,_=>by cases h
 | k+1,acc,s,r,s',hd,hg,hno,h,he=>by
  unfold kJq at h
  by_cases hx:isF l (opWd 2) s=true
  ·rw [if_pos (show isF l [105,109,112,108,105,101,115] s=true from hx)] at h
   simp only [Option.bind_eq_some_iff] at h
   obtain⟨⟨m,s2⟩,g1,g2⟩:=h
   have hs2:s2.er=0:=by
    by_cases h0:s2.er=0
    ·exact h0
    ·have hn:isF l [105,109,112,108,105,101,115] s2=false:=by unfold isF;simp [h0]
     cases k with
     | zero=>cases g2
     | succ k =>
      simp only [kJq] at g2
      rw [hn] at g2
      simp at g2
      rw [←g2.2] at he
      exact absurd he h0
   have hm:=ho (kBx s) m s2 hd g1 hs2
   have hsd:s2.dp=s.dp:=hm.dp
   obtain⟨ini,x,rfl,q1,q2,q3,q4⟩:=hg
   have hxc:fits 2 false x s.dp:=by
    rcases q4 with q | q
    ·exact q
    ·have:=q 2 (by decide);rw [hx] at this;cases this
   have:=implLoop_good ho k (ini++[x]++[m]) s2 r s' (by rw [hsd];exact hd) ⟨ini++[x],m,rfl,by
    intro y hy
    rw [hsd]
    rcases List.mem_append.1 hy with hy | hy
    ·exact q1 y hy
    ·have:y=x:=by simpa using hy
     subst this
     exact⟨q2,hxc⟩,hm.ok,by rw [hsd];exact hm.fit,by rw [hsd];exact hm.clo⟩ hm.no g2 he
   exact⟨kQx hx,by rw [this.2.1,hsd],by rw [←hsd];exact this.2.2.1,this.2.2.2⟩
  ·rw [if_neg (show ¬isF l [105,109,112,108,105,101,115] s=true from hx)] at h
   simp only [Option.some.injEq,Prod.mk.injEq] at h
   obtain⟨rfl,rfl⟩:=h
   refine⟨he,rfl,hg,fun q hq=>?_⟩
   by_cases hqc:q=2
   ·subst hqc;simpa using hx
   ·exact hno q (by omega)
theorem implies_good (ho:GoodP l 0 of):GoodP l 3 (kMj l of):=by
 have hors:GoodP l 2 (orsP l of):=leftP_good (c:=1) (by decide) (by decide) (leftP_good (c:=0) (by decide) (by decide) ho)
 intro s n s' hd h he
 unfold kMj at h
 simp only [Option.bind_eq_some_iff,Option.map_eq_some_iff] at h
 obtain⟨⟨m,s1⟩,h1,⟨a,s2⟩,h2,h3⟩:=h
 simp only [Prod.mk.injEq] at h3
 obtain⟨rfl,rfl⟩:=h3
 simp only at h2
 have hs1:s1.er=0:=by
  by_cases h0:s1.er=0
  ·exact h0
  ·have hn:isF l [105,109,112,108,105,101,115] s1=false:=by unfold isF;simp [h0]
   simp only [kJq] at h2
   rw [hn] at h2
   simp at h2
   rw [←h2.2] at he
   exact absurd he h0
 have hm:=hors s m s1 hd h1 hs1
 obtain⟨r1,r2,⟨ini,x,rfl,q1,q2,q3,q4⟩,r4⟩:=implLoop_good hors _ [m] s1 a s2 (by rw [hm.dp];exact hd) ⟨[],m,rfl,by simp,hm.ok,by rw [hm.dp];exact hm.fit,by rw [hm.dp];exact hm.clo⟩ hm.no h2 he
 obtain⟨i1,i2,i3⟩:=implFold_good ini x q1 q2 q3 q4
 exact⟨hm.er,by rw [r2,hm.dp],i1,by rw [←hm.dp];exact i2,by rw [←hm.dp];exact i3,r4⟩
theorem formula_good (ho:GoodP l 0 of):GoodP l 4 (kLx l of):=leftP_good (c:=3) (by decide) (by decide) (implies_good ho)
end
end Go.Proofs.YtkhbpebpljdifaaGreatDoor
namespace Go.Proofs.YtkhbpebpljdifaaGreatDoor
open Go.PL
theorem not_flag (m:Nd):¬(4<levF (opF m)∨(15<opF m∧true=false)):=by
 have:=levF_le (opF m)
 rintro (q | ⟨-,q⟩)
 ·omega
 ·cases q
theorem kFq {k:Nat} (hk:k≠0) {s:PS}:(kCk k s).er≠0:=kLk hk s
section
variable {l:List PL.Tok} (hR:RealL l)
theorem tk_mem {s:PS} (h:(tkAt l s).kind≠0):tkAt l s∈l:=by
 unfold tkAt at h ⊢
 rw [List.getD_eq_getElem?_getD] at h ⊢
 cases hl:l[s.nx]? with
 | none=>rw [hl] at h;exact absurd rfl h
 | some t=>rw [Option.getD_some];exact List.mem_of_getElem? hl
theorem kUk {x:List UInt8} {s:PS} (h:(kPj l x s).er=0):s.er=0:=by
 unfold kPj at h
 by_cases hx:isF l x s=true
 ·exact kQx hx
 ·rw [if_neg hx] at h
  exact absurd h (kFq (by decide))
theorem need_dp (x:List UInt8) (s:PS):(kPj l x s).dp=s.dp:=by
 unfold kPj
 split
 ·rfl
 ·exact wrongF_dp _ _
include hR
theorem kNk {s:PS} (h:(kAj l s).2.er=0):s.er=0∧Real 1 (kAj l s).1 0∧(kAj l s).2.dp=s.dp:=by
 unfold kAj at h ⊢
 simp only at h ⊢
 by_cases hk:(tkAt l s).kind=1
 ·rw [if_pos hk] at h ⊢
  by_cases he:s.er=0
  ·rw [if_pos he] at h ⊢
   have hr:=hR _ (tk_mem (s:=s) (by omega)) (by omega)
   refine⟨he,?_,rfl⟩
   unfold RealT at hr
   rw [hk] at hr
   rcases hr with⟨b,-,-,h4,-⟩ | ⟨h1,h2,h3⟩
   ·cases h4
   ·refine Or.inr ⟨h1,h2,?_⟩
    have h0:(tkAt l s).val=0:=by
     generalize hx:(tkAt l s).text=x at h3
     cases x with
     | nil=>cases h3
     | cons b t =>
      simp only [kEw] at h3
      split at h3
      ·split at h3
       ·cases h3
       ·split at h3
        ·cases h3
        ·cases h3
      ·split at h3
       ·cases h3
       ·split at h3
        ·cases h3
        ·split at h3
         ·cases h3
         ·exact (Prod.mk.inj (Except.ok.inj h3)).2.symm
    rw [h0] at h3
    exact h3
  ·rw [if_neg he] at h
   exact absurd h he
 ·rw [if_neg hk] at h
  have hw:=kFq (k:=3) (by decide) (s:=s)
  rw [if_neg hw] at h
  exact absurd h hw
omit hR in
theorem number_good {a z:Int} {s:PS} (h:(kHq l a z s).2.er=0):s.er=0∧a≤(kHq l a z s).1∧(kHq l a z s).1≤z∧(kHq l a z s).2.dp=s.dp:=by
 unfold kHq at h ⊢
 simp only at h ⊢
 by_cases hk:(tkAt l s).kind=2
 ·rw [if_pos hk] at h ⊢
  by_cases hv:((tkAt l s).val:Int)<a∨z<(tkAt l s).val
  ·rw [if_pos hv] at h
   have hw:=kFq (k:=2) (by decide) (s:=s)
   rw [if_neg hw] at h
   exact absurd h hw
  ·rw [if_neg hv] at h ⊢
   by_cases he:s.er=0
   ·rw [if_pos he] at h ⊢
    exact⟨he,by simp only;omega,by simp only;omega,rfl⟩
   ·rw [if_neg he] at h
    exact absurd h he
 ·rw [if_neg hk] at h
  have hw:=kFq (k:=3) (by decide) (s:=s)
  rw [if_neg hw] at h
  exact absurd h hw
omit hR in
theorem first_le (s:PS):∀(xs:List (List UInt8)) (i j:Nat),kPk l s xs i=some j→i≤j∧j<i+xs.length∧s.er=0
 | [],i,j,h=>by cases h
 | x::xs,i,j,h=>by
  unfold kPk at h
  by_cases hx:isF l x s=true
  ·rw [if_pos hx] at h
   cases h
   exact⟨Nat.le_refl _,by simp,kQx hx⟩
  ·rw [if_neg hx] at h
   have:=first_le s xs (i+1) j h
   simp only [List.length_cons]
   omega
omit hR in
theorem sort_good {s:PS} (h:(kBz l s).2.er=0):s.er=0∧0≤(kBz l s).1∧(kBz l s).1<4∧(kBz l s).2.dp=s.dp:=by
 unfold kBz at h ⊢
 cases hf:kPk l s kDj 0 with
 | none =>
  rw [hf] at h
  exact absurd h (kFq (by decide))
 | some i =>
  obtain⟨h1,h2,h3⟩:=first_le s _ _ _ hf
  have:kDj.length=4:=rfl
  exact⟨h3,by simp only;omega,by simp only;omega,rfl⟩
omit hR in
theorem level_good {_b:Nat} {of:Rd} {s:PS} {n:Nd} {s':PS} (hd:s.dp≤256) (h:levelP of s=some (n,s')) (he:s'.er=0):s.er=0∧s.dp<256∧∃s2,of ⟨s.nx+1,0,s.dp+1⟩=some (n,s2)∧s2.er=0∧s'=⟨s2.nx,0,s2.dp-1⟩:=by
 unfold levelP at h
 simp only at h
 by_cases h1:s.dp=256
 ·rw [if_pos h1] at h
  have hw:=kFq (k:=16) (by decide) (s:=s)
  rw [if_neg hw] at h
  simp only [Option.some.injEq,Prod.mk.injEq] at h
  rw [←h.2] at he
  exact absurd he hw
 ·rw [if_neg h1] at h
  by_cases h2:s.er=0
  ·rw [if_pos h2] at h
   simp only [Option.map_eq_some_iff] at h
   obtain⟨⟨m,s2⟩,g1,g2⟩:=h
   simp only [Prod.mk.injEq] at g2
   obtain⟨rfl,rfl⟩:=g2
   have he2:s2.er=0:=he
   have e:({ nx:=s.nx+1,er:=s.er,dp:=s.dp+1 }:PS)=⟨s.nx+1,0,s.dp+1⟩:=by rw [h2]
   refine⟨h2,by omega,s2,?_,he2,?_⟩
   ·rw [←e];exact g1
   ·cases s2;simp only at he2;subst he2;rfl
  ·rw [if_neg h2] at h
   simp only [Option.some.injEq,Prod.mk.injEq] at h
   rw [←h.2] at he
   exact absurd he h2
omit hR in
theorem good_par {s:PS} {n:Nd} {s':PS} (her:s.er=0) (hdp:s'.dp=s.dp) (hok:okF n) (h:s.dp+1+lvF true n≤256):GoodN l 0 s n s':=⟨her,hdp,hok,fits_par h _ _,Or.inl (fits_par h _ _),fun c hc=>by omega⟩
omit hR in
theorem good_atom {s:PS} {s':PS} {op so n m:Int} {names:List (List UInt8)} {ls:List Nd} (hD:s.dp≤256) (her:s.er=0) (hdp:s'.dp=s.dp) (hop:op<11) (hok:okF (.mk op names so n m ls)):GoodN l 0 s (.mk op names so n m ls) s':=⟨her,hdp,hok,fits_atom hop hD _ _,Or.inl (fits_atom hop hD _ _),fun c hc=>by omega⟩
omit hR in
theorem paren_good {fm:Rd} (hf:GoodP l 4 fm):GoodP l 0 (parenP l fm):=by
 intro s n s' hd h he
 obtain⟨h1,h2,s2,h3,h4,rfl⟩:=level_good (_b:=0) hd h he
 simp only [Option.map_eq_some_iff] at h3
 obtain⟨⟨m,s3⟩,g1,g2⟩:=h3
 simp only [Prod.mk.injEq] at g2
 obtain⟨rfl,rfl⟩:=g2
 have h5:=kUk h4
 have hg:=hf _ m s3 (by simp only;omega) g1 h5
 have hdp:s3.dp=s.dp+1:=hg.dp
 refine good_par h1 ?_ hg.ok ?_
 ·simp only [need_dp,hdp];omega
 ·have:=hg.fit.2 (not_flag m)
  simp only at this
  omega
omit hR in
theorem not_good {of:Rd} (hf:GoodP l 0 of):GoodP l 0 (notP of):=by
 intro s n s' hd h he
 obtain⟨h1,h2,s2,h3,h4,rfl⟩:=level_good (_b:=0) hd h he
 simp only [Option.map_eq_some_iff] at h3
 obtain⟨⟨m,s3⟩,g1,g2⟩:=h3
 simp only [Prod.mk.injEq] at g2
 obtain⟨rfl,rfl⟩:=g2
 have hg:=hf _ m s3 (by simp only;omega) g1 h4
 have hdp:s3.dp=s.dp+1:=hg.dp
 refine⟨h1,by simp only [hdp];omega,?_,fits_not hg.fit,?_,fun c hc=>by omega⟩
 ·unfold okF oksF oksF
  exact⟨by simp,Or.inr (Or.inr (Or.inr (Or.inr (Or.inr (Or.inr (Or.inl ⟨rfl,rfl,rfl,rfl,rfl,rfl⟩)))))),hg.ok,trivial⟩
 ·refine hg.clo.imp (fun q=>fits_not q) (fun q c hc=>?_)
  have:=q c hc
  unfold isF at this ⊢
  simp only [h4] at this
  exact this
theorem bind_good {fm:Rd} (hf:GoodP l 4 fm) {op:Int} (hop:op=16∨op=17):GoodP l 0 (bindP l op fm):=by
 intro s n s' hd h he
 obtain⟨h1,h2,s2,h3,h4,rfl⟩:=level_good (_b:=0) hd h he
 simp only [Option.map_eq_some_iff] at h3
 obtain⟨⟨m,s3⟩,g1,g2⟩:=h3
 simp only [Prod.mk.injEq] at g2
 obtain⟨rfl,rfl⟩:=g2
 have d0:(kPj l [58] (kAj l (kBz l ⟨s.nx+1,0,s.dp+1⟩).2).2).dp=(kAj l (kBz l ⟨s.nx+1,0,s.dp+1⟩).2).2.dp:=need_dp _ _
 have hle:(kPj l [58] (kAj l (kBz l ⟨s.nx+1,0,s.dp+1⟩).2).2).dp≤256→GoodN l 4 (kPj l [58] (kAj l (kBz l ⟨s.nx+1,0,s.dp+1⟩).2).2) m s3:=fun hq=>hf _ m s3 hq g1 h4
 have dpI:∀s:PS,(kAj l s).2.dp=s.dp:=by
  intro s
  unfold kAj
  simp only
  by_cases hk:(tkAt l s).kind=1
  ·rw [if_pos hk]
   by_cases he:s.er=0
   ·rw [if_pos he];rfl
   ·rw [if_neg he]
  ·rw [if_neg hk,if_neg (kFq (by decide))]
   exact wrongF_dp _ _
 have dpS:∀s:PS,(kBz l s).2.dp=s.dp:=by
  intro s
  unfold kBz
  split
  ·rfl
  ·exact wrongF_dp _ _
 have hdp:(kPj l [58] (kAj l (kBz l ⟨s.nx+1,0,s.dp+1⟩).2).2).dp=s.dp+1:=by rw [d0,dpI,dpS]
 have hg:=hle (by omega)
 have e1:=kUk hg.er
 obtain⟨e2,hreal,-⟩:=kNk hR e1
 obtain⟨-,hs0,hs4,-⟩:=sort_good e2
 have hfit:=hg.fit
 have hd3:=hg.dp
 rw [hdp] at hfit hd3
 have hlv:s.dp+1+lvF true m≤256:=hfit.2 (not_flag m)
 have hno:NoOp l 4 ⟨s3.nx,0,s3.dp-1⟩:=by
  intro c hc
  have:=hg.no c hc
  unfold isF at this ⊢
  simp only [h4] at this
  exact this
 have hlev:levF op=0:=by unfold levF;rw [if_neg (by omega),if_neg (by omega),if_neg (by omega),if_neg (by omega)]
 refine⟨h1,by simp only [hd3];omega,?_,?_,Or.inr hno,fun c hc=>by omega⟩
 ·unfold okF oksF oksF
  refine⟨?_,Or.inr (Or.inr (Or.inr (Or.inr (Or.inr (Or.inr (Or.inr (Or.inr ⟨by omega,by omega,rfl,rfl,hs0,hs4,rfl,rfl⟩))))))),hg.ok,trivial⟩
  intro x hx
  have:x=(kAj l (kBz l ⟨s.nx+1,0,s.dp+1⟩).2).1:=by simpa using hx
  rw [this]
  exact hreal
 ·refine⟨fun h=>?_,fun _=>?_⟩
  ·simp only [opF,hlev] at h
   rcases h with h | ⟨-,h⟩
   ·omega
   ·cases h
  ·unfold lvF
   rw [if_neg (by omega),if_neg (by omega),if_neg (by omega)]
   simp only [lvsF,List.getD_cons_zero]
   omega
end
end Go.Proofs.YtkhbpebpljdifaaGreatDoor
namespace Go.Proofs.YtkhbpebpljdifaaGreatDoor
open Go.PL
theorem real_in {a x:List UInt8} (hr:Real 1 a 0) (hx:x∈[a]):Real 1 x 0:=by
 have:x=a:=by simpa using hx
 rw [this];exact hr
section
variable {l:List PL.Tok} (hR:RealL l)
theorem ident_dp (l:List PL.Tok) (s:PS):(kAj l s).2.dp=s.dp:=by
 unfold kAj
 simp only
 by_cases hk:(tkAt l s).kind=1
 ·rw [if_pos hk]
  by_cases he:s.er=0
  ·rw [if_pos he];rfl
  ·rw [if_neg he]
 ·rw [if_neg hk,if_neg (kFq (by decide))]
  exact wrongF_dp _ _
theorem callLoop_dp:∀(k:Nat) (xs:List (List UInt8)) (s:PS) (r:List (List UInt8)) (s':PS),kJk l k xs s=some (r,s')→s'.dp=s.dp
 | 0,_,_,_,_,h=>by cases h
 | k+1,xs,s,r,s',h=>by
  simp only [kJk] at h
  by_cases h0:s.er=0
  ·rw [if_pos h0] at h
   by_cases h1:(tkAt l s).kind=1∧xs.length=17
   ·rw [if_pos h1] at h
    cases h
    exact wrongF_dp _ _
   ·rw [if_neg h1] at h
    by_cases h2:isF l [44] (kAj l s).2=true
    ·rw [if_pos h2] at h
     rw [callLoop_dp k _ _ r s' h]
     exact ident_dp l s
    ·rw [if_neg h2] at h
     cases h
     rw [need_dp,ident_dp]
  ·rw [if_neg h0] at h
   cases h
   rfl
include hR
theorem callLoop_good:∀(k:Nat) (xs:List (List UInt8)) (s:PS) (r:List (List UInt8)) (s':PS),xs.length≤17→(∀x∈xs,Real 1 x 0)→kJk l k xs s=some (r,s')→s'.er=0→s.er=0∧r.length≤17∧xs.length<r.length∧(∀x∈r,Real 1 x 0)
 | 0,_,_,_,_,_,_,h,_=>by cases h
 | k+1,xs,s,r,s',h17,hx,h,he=>by
  simp only [kJk] at h
  by_cases h0:s.er=0
  ·rw [if_pos h0] at h
   by_cases h1:(tkAt l s).kind=1∧xs.length=17
   ·rw [if_pos h1] at h
    cases h
    exact absurd he (kFq (by decide))
   ·rw [if_neg h1] at h
    have key:(kAj l s).2.er=0→Real 1 (kAj l s).1 0∧xs.length<17:=by
     intro hi
     refine⟨(kNk hR hi).2.1,?_⟩
     have hk:(tkAt l s).kind=1:=by
      by_cases hk:(tkAt l s).kind=1
      ·exact hk
      ·exfalso
       unfold kAj at hi
       simp only at hi
       rw [if_neg hk,if_neg (kFq (by decide))] at hi
       exact kFq (by decide) hi
     have:xs.length≠17:=fun q=>h1 ⟨hk,q⟩
     omega
    by_cases h2:isF l [44] (kAj l s).2=true
    ·rw [if_pos h2] at h
     have hi:(kAj l s).2.er=0:=kQx h2
     obtain⟨k1,k2⟩:=key hi
     have:=callLoop_good k (xs++[(kAj l s).1]) (kBx (kAj l s).2) r s' (by simp;omega) (by
      intro x hx'
      rcases List.mem_append.1 hx' with hx' | hx'
      ·exact hx x hx'
      ·have:x=(kAj l s).1:=by simpa using hx'
       rw [this];exact k1) h he
     refine⟨h0,this.2.1,?_,this.2.2.2⟩
     have h3:=this.2.2.1
     simp at h3
     omega
    ·rw [if_neg h2] at h
     cases h
     obtain⟨k1,k2⟩:=key (kUk he)
     refine⟨h0,by simp;omega,by simp,?_⟩
     intro x hx'
     rcases List.mem_append.1 hx' with hx' | hx'
     ·exact hx x hx'
     ·have:x=(kAj l s).1:=by simpa using hx'
      rw [this];exact k1
  ·rw [if_neg h0] at h
   cases h
   exact absurd he h0
omit hR in
theorem ok_leaf {op so n m:Int} {names:List (List UInt8)} (hn:∀x∈names,Real 1 x 0) (h:((op=0∨op=1)∧names=[]∧so=0∧n=0∧m=0)∨(2≤op∧op<7∧names.length=2∧so=0∧n=0∧m=0)∨(op=7∧names.length=1∧so=0∧0≤n∧n≤7∧m=0)∨(op=8∧names.length=1∧so=0∧0≤n∧n<m∧m≤64)∨(op=9∧names.length=1∧so=0∧n=0∧m=0)∨(op=10∧1≤names.length∧names.length≤17∧so=0∧n=0∧m=0)):okF (.mk op names so n m []):=by
 unfold okF oksF
 refine⟨hn,?_,trivial⟩
 rcases h with⟨h1,h2,h3,h4,h5⟩ | ⟨h1,h2,h3,h4,h5,h6⟩ | ⟨h1,h2,h3,h4,h5,h6⟩ | ⟨h1,h2,h3,h4,h5,h6⟩ | ⟨h1,h2,h3,h4,h5⟩ | ⟨h1,h2,h3,h4,h5,h6⟩
 ·exact Or.inl ⟨h1,h2,rfl,h3,h4,h5⟩
 ·exact Or.inr (Or.inl ⟨h1,h2,h3,rfl,h4,h5,h6⟩)
 ·exact Or.inr (Or.inr (Or.inl ⟨h1,h2,rfl,h3,h4,h5,h6⟩))
 ·exact Or.inr (Or.inr (Or.inr (Or.inl ⟨h1,h2,rfl,h3,h4,h5,h6⟩)))
 ·exact Or.inr (Or.inr (Or.inr (Or.inr (Or.inl ⟨h1,h2,rfl,h3,h4,h5⟩))))
 ·exact Or.inr (Or.inr (Or.inr (Or.inr (Or.inr (Or.inl ⟨h1,h2,h3,rfl,h4,h5,h6⟩)))))
theorem size_good {s:PS} (hd:s.dp≤256) (he:(sizeP l s).2.er=0):GoodN l 0 s (sizeP l s).1 (sizeP l s).2:=by
 unfold sizeP at he ⊢
 simp only at he ⊢
 obtain⟨e1,b1,b2,d1⟩:=number_good he
 have e2:=kUk e1
 obtain⟨e3,c1,c2,d2⟩:=number_good e2
 have e4:=kUk e3
 obtain⟨e5,hr,d3⟩:=kNk hR e4
 refine good_atom hd (show s.er=0 from e5) ?_ (by decide) (ok_leaf (fun x hx=>real_in hr hx) (Or.inr (Or.inr (Or.inr (Or.inl ⟨rfl,rfl,rfl,b1,by omega,c2⟩)))))
 rw [d1,need_dp,d2,need_dp,d3]
 rfl
theorem one_good {s:PS} (hd:s.dp≤256) (he:(oneP l s).2.er=0):GoodN l 0 s (oneP l s).1 (oneP l s).2:=by
 unfold oneP at he ⊢
 simp only at he ⊢
 obtain⟨e5,hr,d3⟩:=kNk hR he
 exact good_atom hd (show s.er=0 from e5) (by rw [d3];rfl) (by decide) (ok_leaf (fun x hx=>real_in hr hx) (Or.inr (Or.inr (Or.inr (Or.inr (Or.inl ⟨rfl,rfl,rfl,rfl,rfl⟩))))))
theorem call_good {f:List UInt8} (hf:Real 1 f 0) {s:PS} {n:Nd} {s':PS} (hd:s.dp≤256) (hs:s.er=0) (h:callP l f s=some (n,s')) (he:s'.er=0):GoodN l 0 s n s':=by
 unfold callP at h
 simp only at h
 by_cases h1:isF l [41] (kBx s)=true
 ·rw [if_pos h1] at h
  cases h
  exact good_atom hd hs rfl (by decide) (ok_leaf (fun x hx=>real_in hf hx) (Or.inr (Or.inr (Or.inr (Or.inr (Or.inr ⟨rfl,by simp,by simp,rfl,rfl,rfl⟩))))))
 ·rw [if_neg h1] at h
  simp only [Option.map_eq_some_iff] at h
  obtain⟨⟨xs,s2⟩,g1,g2⟩:=h
  simp only [Prod.mk.injEq] at g2
  obtain⟨rfl,rfl⟩:=g2
  obtain⟨c1,c2,c3,c4⟩:=callLoop_good hR _ [f] _ xs s2 (by simp) (fun x hx=>real_in hf hx) g1 he
  have hdp:=callLoop_dp _ _ _ _ _ g1
  exact good_atom hd hs (by rw [hdp];rfl) (by decide) (ok_leaf c4 (Or.inr (Or.inr (Or.inr (Or.inr (Or.inr ⟨rfl,by omega,c2,rfl,rfl,rfl⟩))))))
theorem atom_good:GoodP l 0 (atomP l):=by
 intro s n s' hd h he
 unfold atomP at h
 simp only at h
 by_cases h1:isF l [40] (kAj l s).2=true
 ·rw [if_pos h1] at h
  obtain⟨e1,hr,d1⟩:=kNk hR (kQx h1)
  have:=call_good hR hr (s:=(kAj l s).2) (by rw [d1];exact hd) (kQx h1) h he
  refine⟨e1,by rw [this.dp,d1],this.ok,by rw [←d1];exact this.fit,by rw [←d1];exact this.clo,this.no⟩
 ·rw [if_neg h1] at h
  by_cases h2:isF l [105,115] (kAj l s).2=true
  ·rw [if_pos h2] at h
   obtain⟨e1,hr,d1⟩:=kNk hR (kQx h2)
   cases h
   obtain⟨-,b1,b2,d2⟩:=number_good he
   exact good_atom hd e1 (by rw [d2];exact d1) (by decide) (ok_leaf (fun x hx=>real_in hr hx) (Or.inr (Or.inr (Or.inl ⟨rfl,rfl,rfl,b1,b2,rfl⟩))))
  ·rw [if_neg h2] at h
   cases hf:kPk l (kAj l s).2 kQz 0 with
   | none =>
    rw [hf] at h
    cases h
    exact absurd he (kFq (by decide))
   | some i =>
    rw [hf] at h
    cases h
    obtain⟨-,h5,h6⟩:=first_le _ _ _ _ hf
    have h5':i<5:=by simpa [kQz] using h5
    obtain⟨e1,hr,d1⟩:=kNk hR h6
    obtain⟨-,hr2,d2⟩:=kNk hR he
    refine good_atom hd e1 (by rw [d2];exact d1) (by omega) (ok_leaf ?_ (Or.inr (Or.inl ⟨by omega,by omega,rfl,rfl,rfl,rfl⟩)))
    intro x hx
    simp only [List.mem_cons,List.not_mem_nil,or_false] at hx
    rcases hx with rfl | rfl
    ·exact hr
    ·exact hr2
theorem operand_good:∀d:Nat,GoodP l 0 (kCj l d)
 | 0=>by intro s n s' _ h;cases h
 | d+1=>by
  have ih:=operand_good d
  have hfm:=formula_good ih
  intro s n s' hd h he
  unfold kCj at h
  simp only at h
  by_cases hk:((tkAt l s).kind=3∨(tkAt l s).kind=4)∧s.er=0
  ·rw [if_pos hk] at h
   by_cases t1:(tkAt l s).text=[116,114,117,101]
   ·rw [if_pos t1] at h
    cases h
    exact good_atom hd hk.2 rfl (by decide) (ok_leaf (by simp) (Or.inl ⟨Or.inl rfl,rfl,rfl,rfl,rfl⟩))
   rw [if_neg t1] at h
   by_cases t2:(tkAt l s).text=[102,97,108,115,101]
   ·rw [if_pos t2] at h
    cases h
    exact good_atom hd hk.2 rfl (by decide) (ok_leaf (by simp) (Or.inl ⟨Or.inr rfl,rfl,rfl,rfl,rfl⟩))
   rw [if_neg t2] at h
   by_cases t3:(tkAt l s).text=[115,105,122,101]
   ·rw [if_pos t3] at h
    simp only [Option.some.injEq] at h
    have:=size_good hR hd (by rw [h];exact he)
    rw [h] at this
    exact this
   rw [if_neg t3] at h
   by_cases t4:(tkAt l s).text=[111,110,101]
   ·rw [if_pos t4] at h
    simp only [Option.some.injEq] at h
    have:=one_good hR hd (by rw [h];exact he)
    rw [h] at this
    exact this
   rw [if_neg t4] at h
   by_cases t5:(tkAt l s).text=[110,111,116]
   ·rw [if_pos t5] at h
    exact not_good ih s n s' hd h he
   rw [if_neg t5] at h
   by_cases t6:(tkAt l s).text=[115,111,109,101]
   ·rw [if_pos t6] at h
    exact bind_good hR hfm (Or.inl rfl) s n s' hd h he
   rw [if_neg t6] at h
   by_cases t7:(tkAt l s).text=[101,118,101,114,121]
   ·rw [if_pos t7] at h
    exact bind_good hR hfm (Or.inr rfl) s n s' hd h he
   rw [if_neg t7] at h
   by_cases t8:(tkAt l s).text=[40]
   ·rw [if_pos t8] at h
    exact paren_good hfm s n s' hd h he
   rw [if_neg t8] at h
   exact atom_good hR s n s' hd h he
  ·rw [if_neg hk] at h
   exact atom_good hR s n s' hd h he
theorem whole_good:GoodP l 4 (wholeP l):=formula_good (operand_good hR 257)
theorem freeLoop_good:∀(k:Nat) (out:List (List UInt8×Int)) (s:PS) (r:List (List UInt8×Int)) (s':PS),okV out→kNz l k out s=some (r,s')→s'.er=0→s.er=0∧s'.dp=s.dp∧okV r
 | 0,_,_,_,_,_,h,_=>by cases h
 | k+1,out,s,r,s',hv,h,he=>by
  simp only [kNz] at h
  by_cases h0:s.er=0
  ·rw [if_pos h0] at h
   generalize hs2:(if (tkAt l (kBz l s).2).kind=1 then (if out.length=8 then kCk 8 (kBz l s).2 else if (out.any fun o=>decide (o.1=(tkAt l (kBz l s).2).text))=true then kCk 7 (kBz l s).2 else (kBz l s).2) else (kBz l s).2)=s2 at h
   have key:(kAj l s2).2.er=0→okV (out++[((kAj l s2).1,(kBz l s).1)])∧(kAj l s2).2.dp=s.dp:=by
    intro hi
    obtain⟨e2,hr,d2⟩:=kNk hR hi
    have hk:(tkAt l s2).kind=1:=by
     by_cases hk:(tkAt l s2).kind=1
     ·exact hk
     ·exfalso
      unfold kAj at hi
      simp only at hi
      rw [if_neg hk,if_neg (kFq (by decide))] at hi
      exact kFq (by decide) hi
    have hnx:s2.nx=(kBz l s).2.nx:=by
     rw [←hs2]
     repeat' split
     all_goals first | rfl | exact kPw _ _
    have htk:tkAt l s2=tkAt l (kBz l s).2:=by unfold tkAt;rw [hnx]
    rw [htk] at hk
    rw [if_pos hk] at hs2
    by_cases g1:out.length=8
    ·rw [if_pos g1] at hs2
     rw [←hs2] at e2
     exact absurd e2 (kFq (by decide))
    rw [if_neg g1] at hs2
    by_cases g2:(out.any fun o=>decide (o.1=(tkAt l (kBz l s).2).text))=true
    ·rw [if_pos g2] at hs2
     rw [←hs2] at e2
     exact absurd e2 (kFq (by decide))
    rw [if_neg g2] at hs2
    rw [←hs2] at e2
    obtain⟨-,q0,q4,dq⟩:=sort_good e2
    obtain⟨v1,v2,v3⟩:=hv
    have hname:(kAj l s2).1=(tkAt l (kBz l s).2).text:=by
     rw [←hs2]
     unfold kAj
     simp only
     rw [if_pos hk,if_pos e2]
    refine⟨⟨by simp;omega,?_,?_⟩,by rw [d2,←hs2,dq]⟩
    ·intro v hv'
     rcases List.mem_append.1 hv' with hv' | hv'
     ·exact v2 v hv'
     ·have:v=((kAj l s2).1,(kBz l s).1):=by simpa using hv'
      rw [this]
      exact⟨hr,q0,q4⟩
    ·refine List.pairwise_append.2 ⟨v3,by simp,?_⟩
     intro a ha b hb
     have:b=((kAj l s2).1,(kBz l s).1):=by simpa using hb
     rw [this]
     simp only
     rw [hname]
     intro hab
     apply g2
     rw [List.any_eq_true]
     exact⟨a,ha,by simp [hab]⟩
   by_cases h2:isF l [44] (kAj l s2).2=true
   ·rw [if_pos h2] at h
    obtain⟨k1,k2⟩:=key (kQx h2)
    have:=freeLoop_good k _ (kBx (kAj l s2).2) r s' k1 h he
    exact⟨h0,by rw [this.2.1];exact k2,this.2.2⟩
   ·rw [if_neg h2] at h
    cases h
    obtain⟨k1,k2⟩:=key (kUk he)
    exact⟨h0,by rw [need_dp,k2],k1⟩
  ·rw [if_neg h0] at h
   cases h
   exact absurd he h0
theorem free_good {s:PS} {r:List (List UInt8×Int)} {s':PS} (h:freeP l s=some (r,s')) (he:s'.er=0):s'.dp=s.dp∧okV r:=by
 have h0:okV []:=⟨by simp,by simp,by simp⟩
 unfold freeP at h
 by_cases hx:isF l [102,105,110,100] s=true
 ·rw [if_pos hx] at h
  have:=freeLoop_good hR _ [] (kBx s) r s' h0 h he
  exact⟨this.2.1,this.2.2⟩
 ·rw [if_neg hx] at h
  cases h
  exact⟨rfl,h0⟩
theorem query_good {q:Qn} {s:PS} (h:kFw l=some (q,s)) (he:(endF l q s).er=0):endF l q s=⟨q,0,0,0⟩∧okV q.free∧okF q.body∧lvF true q.body≤256∧kIz q.body=0:=by
 unfold kFw at h
 simp only [Option.bind_eq_some_iff,Option.map_eq_some_iff] at h
 obtain⟨⟨f,s1⟩,h1,⟨n,s2⟩,h2,h3⟩:=h
 simp only [Prod.mk.injEq] at h3
 obtain⟨rfl,rfl⟩:=h3
 simp only at h2
 unfold endF at he ⊢
 simp only at he ⊢
 generalize hs:(if (tkAt l s2).kind=0 then s2 else kCk 3 s2)=s3 at he ⊢
 by_cases h0:s3.er=0
 ·rw [if_pos h0] at he ⊢
  by_cases hg:kIz n=0
  ·rw [if_pos hg] at he ⊢
   have hs2:s2.er=0:=by
    by_cases hk:(tkAt l s2).kind=0
    ·rw [if_pos hk] at hs;rw [hs];exact h0
    ·rw [if_neg hk] at hs
     rw [←hs] at h0
     exact absurd h0 (kFq (by decide))
   have hf:=whole_good hR s1 n s2
   have hd1:s1.er=0→s1.dp=0∧okV f:=fun e=>by have:=free_good hR h1 e;exact⟨this.1,this.2⟩
   have hdp:s1.dp≤256:=by
    by_cases hx:isF l [102,105,110,100] ⟨0,0,0⟩=true
    ·unfold freeP at h1
     rw [if_pos hx] at h1
     have:∀(k:Nat) (out:List (List UInt8×Int)) (s:PS) (r:List (List UInt8×Int)) (s':PS),kNz l k out s=some (r,s')→s'.dp=s.dp:=by
      intro k
      induction k with
      | zero=>intro _ _ _ _ h;cases h
      | succ k ih =>
       intro out s r s' h
       simp only [kNz] at h
       have dS:∀s:PS,(kBz l s).2.dp=s.dp:=by
        intro s
        unfold kBz
        split
        ·rfl
        ·exact wrongF_dp _ _
       by_cases h0:s.er=0
       ·rw [if_pos h0] at h
        generalize hs2:(if (tkAt l (kBz l s).2).kind=1 then (if out.length=8 then kCk 8 (kBz l s).2 else if (out.any fun o=>decide (o.1=(tkAt l (kBz l s).2).text))=true then kCk 7 (kBz l s).2 else (kBz l s).2) else (kBz l s).2)=s2 at h
        have d2:s2.dp=s.dp:=by
         rw [←hs2,←dS s]
         repeat' split
         all_goals first | rfl | exact wrongF_dp _ _
        by_cases h2:isF l [44] (kAj l s2).2=true
        ·rw [if_pos h2] at h
         rw [ih _ _ _ _ h,←d2]
         exact ident_dp l s2
        ·rw [if_neg h2] at h
         cases h
         rw [need_dp,ident_dp,d2]
       ·rw [if_neg h0] at h
        cases h
        rfl
     rw [this _ _ _ _ _ h1]
     simp [kBx]
    ·unfold freeP at h1
     rw [if_neg hx] at h1
     cases h1
     simp
   have hg2:=hf hdp h2 hs2
   obtain⟨hd0,hv⟩:=hd1 hg2.er
   refine⟨rfl,hv,hg2.ok,?_,hg⟩
   have:=hg2.fit.2 (not_flag n)
   show lvF true n≤256
   omega
  ·rw [if_neg hg] at he
   exact absurd he hg
 ·rw [if_neg h0] at he
  exact absurd he h0
end
end Go.Proofs.YtkhbpebpljdifaaGreatDoor
namespace Go.Proofs.YtkhbpebpljdifaaGreatDoor
open Go.RowKit Go.PL Go.Maps
theorem cells3 {w:World} {p:Nat} {a b c:Value} {r:List Value} {t:TypeId} {z:Nat×Nat} (h:w.heap[p]?=some (.cells (a::b::c::r).toArray t z)):w.cell? ⟨p,0,none⟩=some a∧w.cell? ⟨p,1,none⟩=some b∧w.cell? ⟨p,2,none⟩=some c :=
 ⟨by simpa using kAz h 0,by simpa using kAz h 1,by simpa using kAz h 2⟩
end Go.Proofs.YtkhbpebpljdifaaGreatDoor
namespace Go.Proofs.YtkhbpebpljdifaaGreatDoor
open Go.PL
def lp (t:PL.Tok):Nat:=if t.text=[40] then 1 else 0
def lps (L:List PL.Tok):Nat:=(L.map lp).sum
theorem lps_app (a b:List PL.Tok):lps (a++b)=lps a+lps b:=by simp [lps]
theorem kOk (t:PL.Tok) (b:List PL.Tok):lps (t::b)=lp t+lps b:=by simp [lps]
theorem lps_nil:lps []=0:=rfl
def Lp (l:List PL.Tok) (i:Nat):Nat:=lps (l.take i)
mutual
def pcF:Bool→Nd→Nat
 | last,.mk op _ _ _ _ l =>
  if op<11 then (if op=10 then 1 else 0)
  else if op=11 then parL (parB 11 0 (opNd l 0) last) ((pcsF true l).getD 0 0) ((pcsF last l).getD 0 0)
  else if op<16 then parL (parB op 0 (opNd l 0) false) ((pcsF true l).getD 0 0) ((pcsF false l).getD 0 0)+parL (parB op 1 (opNd l 1) last) ((pcsF true l).getD 1 0) ((pcsF last l).getD 1 0)
  else (pcsF true l).getD 0 0
def pcsF:Bool→List Nd→List Nat
 | _,[]=>[]
 | last,x::xs=>pcF last x::pcsF last xs
end
theorem pc_false:∀(k:Nat) (nd:Nd),kCz nd≤k→pcF false nd≤1+pcF true nd
 | 0,nd,hn=>by have:=kRw nd;omega
 | k+1,.mk op names so n m ls,hn=>by
  unfold kCz at hn
  have child:∀(op:Int) (place i:Nat),parL (parB op place (opNd ls i) false) ((pcsF true ls).getD i 0) ((pcsF false ls).getD i 0)≤1+parL (parB op place (opNd ls i) true) ((pcsF true ls).getD i 0) ((pcsF true ls).getD i 0):=by
   intro op place i
   have h1:(pcsF false ls).getD i 0≤1+(pcsF true ls).getD i 0:=by
    have key:∀(l:List Nd),(∀x∈l,kCz x≤k)→∀i,(pcsF false l).getD i 0≤1+(pcsF true l).getD i 0:=by
     intro l
     induction l with
     | nil=>intro _ i;simp [pcsF]
     | cons x xs ih =>
      intro h i
      cases i with
      | zero=>simpa [pcsF] using pc_false k x (h x (by simp))
      | succ i=>simpa [pcsF] using ih (fun y hy=>h y (by simp [hy])) i
    exact key ls (fun x hx=>by have:=sizes_mem hx;omega) i
   generalize (pcsF false ls).getD i 0=A at h1 ⊢
   generalize (pcsF true ls).getD i 0=B at h1 ⊢
   unfold parB parL
   simp only [Bool.not_true,Bool.and_false,Bool.or_false,Bool.not_false,Bool.and_true]
   cases kMz op place (opNd ls i)<;>cases decide (15<opNd ls i)<;>simp<;>omega
  unfold pcF
  by_cases h1:op<11
  ·rw [if_pos h1,if_pos h1];omega
  rw [if_neg h1,if_neg h1]
  by_cases h2:op=11
  ·rw [if_pos h2,if_pos h2]
   have:=child 11 0 0
   omega
  rw [if_neg h2,if_neg h2]
  by_cases h3:op<16
  ·rw [if_pos h3,if_pos h3]
   have:=child op 1 1
   omega
  ·rw [if_neg h3,if_neg h3];omega
def fitc (b:Nat) (last:Bool) (n:Nd) (A E:Nat):Prop:=(b<levF (opF n)∨(15<opF n∧last=false)→A+1+pcF true n≤E)∧(¬(b<levF (opF n)∨(15<opF n∧last=false))→A+pcF last n≤E)
theorem fitc_par {n:Nd} {A E:Nat} (h:A+1+pcF true n≤E) (b:Nat) (last:Bool):fitc b last n A E:=by
 refine⟨fun _=>h,fun _=>?_⟩
 cases last with
 | true=>omega
 | false=>have:=pc_false _ n (Nat.le_refl _);omega
theorem fitc_raise {n:Nd} {A E b b':Nat} {last:Bool} (h:fitc b last n A E) (hb:b≤b'):fitc b' last n A E:=by
 by_cases h1:b<levF (opF n)∨(15<opF n∧last=false)
 ·exact fitc_par (h.1 h1) b' last
 ·refine⟨fun h2=>absurd ?_ h1,fun _=>h.2 h1⟩
  rcases h2 with h2 | h2
  ·exact Or.inl (by omega)
  ·exact Or.inr h2
theorem fitc_mono {n:Nd} {A E A' E' b:Nat} {last:Bool} (h:fitc b last n A E) (ha:A'≤A) (he:E≤E'):fitc b last n A' E' :=
 ⟨fun q=>by have:=h.1 q;omega,fun q=>by have:=h.2 q;omega⟩
theorem fitc_parL {op:Int} {place:Nat} {c:Nd} {A E b:Nat} {last:Bool} (hp:kMz op place (opF c)=decide (b<levF (opF c))) (h:fitc b last c A E):A+parL (parB op place (opF c) last) (pcF true c) (pcF last c)≤E:=by
 unfold parB
 rw [hp]
 by_cases h1:b<levF (opF c)∨(15<opF c∧last=false)
 ·have:(decide (b<levF (opF c))||(decide (15<opF c)&&!last))=true:=by
   rcases h1 with h1 | ⟨h1,h2⟩
   ·simp [h1]
   ·simp [h1,h2]
  rw [this]
  have:=h.1 h1
  simp only [parL,if_true]
  omega
 ·have:(decide (b<levF (opF c))||(decide (15<opF c)&&!last))=false:=by
   simp only [not_or,not_and] at h1
   simp only [Bool.or_eq_false_iff,Bool.and_eq_false_iff,decide_eq_false_iff_not,Bool.not_eq_false']
   refine⟨h1.1,?_⟩
   by_cases h2:15<opF c
   ·exact Or.inr (by have:=h1.2 h2;simpa using this)
   ·exact Or.inl h2
  rw [this]
  exact h.2 h1
theorem fitc_bin {c:Nat} (hc:c<4) {a b:Nd} {A M E lv:Nat} {last:Bool} (hlv:c+1≤lv) (ha:fitc (lvl0 c) false a A M) (hb:fitc (lvl1 c) last b M E):fitc lv last (.mk (12+c) [] 0 0 0 [a,b]) A E:=by
 refine⟨fun h=>?_,fun _=>?_⟩
 ·simp only [opF,levF_con hc] at h
  omega
 ·have h0:=fitc_parL (op:=12+c) (place:=0) (need0 hc _) ha
  have h1:=fitc_parL (op:=12+c) (place:=1) (need1 hc _) hb
  unfold pcF
  rw [if_neg (by omega),if_neg (by omega),if_pos (by omega)]
  simp only [pcsF,opNd,List.map_cons,List.map_nil,List.getD_cons_zero,List.getD_cons_succ]
  omega
theorem fitc_not {a:Nd} {A E:Nat} {last:Bool} (ha:fitc 0 last a A E):fitc 0 last (.mk 11 [] 0 0 0 [a]) A E:=by
 refine⟨fun h=>?_,fun _=>?_⟩
 ·simp only [opF] at h
  have:levF 11=0:=rfl
  omega
 ·have h0:=fitc_parL (op:=11) (place:=0) (needN _) ha
  unfold pcF
  rw [if_neg (by omega),if_pos rfl]
  simp only [pcsF,opNd,List.map_cons,List.map_nil,List.getD_cons_zero]
  omega
theorem fitc_atom {op so n m:Int} {names:List (List UInt8)} {ls:List Nd} {A E:Nat} (hop:op<11) (h:A+(if op=10 then 1 else 0)≤E) (b:Nat) (last:Bool):fitc b last (.mk op names so n m ls) A E:=by
 refine⟨fun h=>?_,fun _=>?_⟩
 ·simp only [opF] at h
  have:levF op=0:=by unfold levF;rw [if_neg (by omega),if_neg (by omega),if_neg (by omega),if_neg (by omega)]
  omega
 ·unfold pcF
  rw [if_pos hop]
  exact h
section
variable {l:List PL.Tok} {of:Rd}
theorem kYq {i j:Nat} (h:i≤j):Lp l i≤Lp l j:=by
 unfold Lp
 have:l.take j=l.take i++(l.take j).drop i:=by
  conv=>lhs;rw [←List.take_append_drop i (l.take j)]
  rw [List.take_take,Nat.min_eq_left h]
 rw [this,lps_app]
 omega
theorem Lp_step {s:PS} (h:(tkAt l s).kind≠0):Lp l (s.nx+1)=Lp l s.nx+lp (tkAt l s):=by
 unfold Lp
 have hlt:s.nx<l.length:=by
  unfold tkAt at h
  rcases Nat.lt_or_ge s.nx l.length with hh | hh
  ·exact hh
  ·rw [List.getD_eq_getElem?_getD,List.getElem?_eq_none hh] at h
   exact absurd rfl h
 have e:l[s.nx]?=some (tkAt l s):=tk_some hlt
 rw [List.take_add_one,lps_app,e]
 simp [lps]
theorem ident_le (s:PS):s.nx≤(kAj l s).2.nx:=by
 unfold kAj
 simp only
 by_cases hk:(tkAt l s).kind=1
 ·rw [if_pos hk]
  by_cases he:s.er=0
  ·rw [if_pos he];simp [kBx]
  ·rw [if_neg he];exact Nat.le_refl _
 ·rw [if_neg hk,if_neg (kFq (by decide))]
  exact Nat.le_of_eq (kPw _ _).symm
theorem need_le (x:List UInt8) (s:PS):s.nx≤(kPj l x s).nx:=by
 unfold kPj
 split
 ·simp [kBx]
 ·exact Nat.le_of_eq (kPw _ _).symm
theorem number_le (a z:Int) (s:PS):s.nx≤(kHq l a z s).2.nx:=by
 unfold kHq
 simp only
 generalize hq:(if (tkAt l s).kind=2 then (if ((tkAt l s).val:Int)<a∨z<(tkAt l s).val then kCk 2 s else s) else kCk 3 s)=q
 have hn:q.nx=s.nx:=by
  rw [←hq]
  repeat' split
  all_goals first | rfl | exact kPw _ _
 split
 ·simp [kBx,hn]
 ·exact Nat.le_of_eq hn.symm
theorem sort_le (s:PS):s.nx≤(kBz l s).2.nx:=by
 unfold kBz
 split
 ·simp [kBx]
 ·exact Nat.le_of_eq (kPw _ _).symm
theorem callLoop_le:∀(k:Nat) (xs:List (List UInt8)) (s:PS) (r:List (List UInt8)) (s':PS),kJk l k xs s=some (r,s')→s.nx≤s'.nx
 | 0,_,_,_,_,h=>by cases h
 | k+1,xs,s,r,s',h=>by
  simp only [kJk] at h
  have hi:=ident_le (l:=l) s
  split at h
  ·split at h
   ·cases h
    exact Nat.le_of_eq (kPw _ _).symm
   ·split at h
    ·have:=callLoop_le k _ _ _ _ h
     simp only [kBx] at this
     omega
    ·cases h
     exact Nat.le_trans hi (need_le _ _)
  ·cases h
   exact Nat.le_refl _
structure GoodC (l:List PL.Tok) (b A:Nat) (n:Nd) (s':PS):Prop where
 fit:fitc b true n A (Lp l s'.nx)
 clo:fitc b false n A (Lp l s'.nx)∨NoOp l 4 s'
 no:NoOp l b s'
def GoodQ (l:List PL.Tok) (b:Nat) (of:Rd):Prop:=∀s n s',of s=some (n,s')→s'.er=0→s.er=0∧GoodC l b (Lp l s.nx) n s'
theorem leftLoop_er {x:List UInt8} {op:Int}:∀(k:Nat) (n0:Nd) (s:PS) (n:Nd) (s':PS),kIq l x op of k n0 s=some (n,s')→s'.er=0→s.er=0
 | 0,_,_,_,_,h,_=>by cases h
 | k+1,n0,s,n,s',h,he=>by
  unfold kIq at h
  by_cases hx:isF l x s=true
  ·exact kQx hx
  ·rw [if_neg hx] at h
   simp only [Option.some.injEq,Prod.mk.injEq] at h
   rw [h.2];exact he
theorem leftLoop_c {c:Nat} (hc:c<4) (hc2:c≠2) (ho:GoodQ l c of) (A:Nat):∀(k:Nat) (n0:Nd) (s:PS) (n:Nd) (s':PS),fitc (c+1) true n0 A (Lp l s.nx)→(fitc (c+1) false n0 A (Lp l s.nx)∨NoOp l 4 s)→NoOp l c s →
  kIq l (opWd c) (12+c) of k n0 s=some (n,s')→s'.er=0→s.er=0∧GoodC l (c+1) A n s'
 | 0,_,_,_,_,_,_,_,h,_=>by cases h
 | k+1,n0,s,n,s',h2,h3,h4,h,he=>by
  have her:=leftLoop_er _ _ _ _ _ h he
  unfold kIq at h
  by_cases hx:isF l (opWd c) s=true
  ·rw [if_pos hx] at h
   simp only [Option.bind_eq_some_iff] at h
   obtain⟨⟨m,s2⟩,g1,g2⟩:=h
   have hcl:fitc (c+1) false n0 A (Lp l s.nx):=by
    rcases h3 with h3 | h3
    ·exact h3
    ·have:=h3 c hc;rw [hx] at this;cases this
   have hs2:=leftLoop_er _ _ _ _ _ g2 he
   obtain⟨-,hm⟩:=ho (kBx s) m s2 g1 hs2
   have hst:Lp l s.nx≤Lp l (kBx s).nx:=kYq (Nat.le_succ _)
   have e:lvl1 c=c:=by unfold lvl1;rw [if_neg hc2]
   have e0:lvl0 c=c+1:=by unfold lvl0;rw [if_neg hc2]
   have r:=leftLoop_c hc hc2 ho A k (.mk (12+c) [] 0 0 0 [n0,m]) s2 n s'
    (fitc_bin hc (Nat.le_refl _) (by rw [e0];exact fitc_mono hcl (Nat.le_refl _) hst) (by rw [e];exact hm.fit))
    (hm.clo.imp (fun q=>fitc_bin hc (Nat.le_refl _) (by rw [e0];exact fitc_mono hcl (Nat.le_refl _) hst) (by rw [e];exact q)) id) hm.no g2 he
   exact⟨her,r.2⟩
  ·rw [if_neg hx] at h
   simp only [Option.some.injEq,Prod.mk.injEq] at h
   obtain⟨rfl,rfl⟩:=h
   refine⟨her,h2,h3,fun q hq=>?_⟩
   by_cases hqc:q=c
   ·subst hqc;simpa using hx
   ·exact h4 q (by omega)
theorem leftP_c {c:Nat} (hc:c<4) (hc2:c≠2) (ho:GoodQ l c of):GoodQ l (c+1) (leftP l (opWd c) (12+c) of):=by
 intro s n s' h he
 unfold leftP at h
 simp only [Option.bind_eq_some_iff] at h
 obtain⟨⟨m,s1⟩,h1,h2⟩:=h
 have hs1:=leftLoop_er _ _ _ _ _ h2 he
 obtain⟨h0,hm⟩:=ho s m s1 h1 hs1
 have r:=leftLoop_c hc hc2 ho (Lp l s.nx) _ m s1 n s' (fitc_raise hm.fit (Nat.le_succ _)) (hm.clo.imp (fun q=>fitc_raise q (Nat.le_succ _)) id) hm.no h2 he
 exact⟨h0,r.2⟩
def SeqC:List Nd→Nat→Nat→Prop
 | [],A,M=>A≤M
 | y::r,A,M=>∃B,fitc 2 false y A B∧SeqC r B M
theorem seq_snoc {x:Nd} {E:Nat}:∀(ini:List Nd) (A M:Nat),SeqC ini A M→fitc 2 false x M E→SeqC (ini++[x]) A E
 | [],A,M,h,hx=>⟨E,fitc_mono hx h (Nat.le_refl _),Nat.le_refl _⟩
 | y::r,A,M,h,hx=>by
  obtain⟨B,h1,h2⟩:=h
  exact⟨B,h1,seq_snoc r B M h2 hx⟩
def GoodLc (l:List PL.Tok) (A:Nat) (s:PS) (acc:List Nd):Prop:=∃ini x M,acc=ini++[x]∧SeqC ini A M∧fitc 2 true x M (Lp l s.nx)∧(fitc 2 false x M (Lp l s.nx)∨NoOp l 4 s)
theorem implFold_c {X:Prop}:∀(ini:List Nd) (x:Nd) (A M E:Nat),SeqC ini A M→fitc 2 true x M E→(fitc 2 false x M E∨X) →
  fitc 3 true (kJz (ini++[x])) A E∧(fitc 3 false (kJz (ini++[x])) A E∨X)
 | [],x,A,M,E,h0,h2,h3=>⟨fitc_mono (fitc_raise h2 (by decide)) h0 (Nat.le_refl _),h3.imp (fun h=>fitc_mono (fitc_raise h (by decide)) h0 (Nat.le_refl _)) id⟩
 | y::ini,x,A,M,E,h0,h2,h3=>by
  obtain⟨B,k1,k2⟩:=h0
  obtain⟨i2,i3⟩:=implFold_c ini x B M E k2 h2 h3
  have e:kJz ((y::ini)++[x])=.mk 14 [] 0 0 0 [y,kJz (ini++[x])]:=by
   cases ini<;>rfl
  rw [e]
  exact⟨fitc_bin (c:=2) (by decide) (Nat.le_refl _) k1 i2,i3.imp (fun h=>fitc_bin (c:=2) (by decide) (Nat.le_refl _) k1 h) id⟩
theorem implLoop_er:∀(k:Nat) (acc:List Nd) (s:PS) (r:List Nd) (s':PS),kJq l of k acc s=some (r,s')→s'.er=0→s.er=0
 | 0,_,_,_,_,h,_=>by cases h
 | k+1,acc,s,r,s',h,he=>by
  unfold kJq at h
  by_cases hx:isF l (opWd 2) s=true
  ·exact kQx hx
  ·rw [if_neg (show ¬isF l [105,109,112,108,105,101,115] s=true from hx)] at h
   simp only [Option.some.injEq,Prod.mk.injEq] at h
   rw [h.2];exact he
theorem implLoop_c (ho:GoodQ l 2 of) (A:Nat):∀(k:Nat) (acc:List Nd) (s:PS) (r:List Nd) (s':PS),GoodLc l A s acc→NoOp l 2 s→kJq l of k acc s=some (r,s')→s'.er=0→GoodLc l A s' r∧NoOp l 3 s'
 | 0,_,_,_,_,_,_,h,_=>by cases h
 | k+1,acc,s,r,s',hg,hno,h,he=>by
  unfold kJq at h
  by_cases hx:isF l (opWd 2) s=true
  ·rw [if_pos (show isF l [105,109,112,108,105,101,115] s=true from hx)] at h
   simp only [Option.bind_eq_some_iff] at h
   obtain⟨⟨m,s2⟩,g1,g2⟩:=h
   have hs2:=implLoop_er _ _ _ _ _ g2 he
   obtain⟨-,hm⟩:=ho (kBx s) m s2 g1 hs2
   obtain⟨ini,x,M,rfl,q1,q2,q3⟩:=hg
   have hst:Lp l s.nx≤Lp l (kBx s).nx:=kYq (Nat.le_succ _)
   have hxc:fitc 2 false x M (Lp l (kBx s).nx):=by
    rcases q3 with q | q
    ·exact fitc_mono q (Nat.le_refl _) hst
    ·have:=q 2 (by decide);rw [hx] at this;cases this
   exact implLoop_c ho A k (ini++[x]++[m]) s2 r s' ⟨ini++[x],m,_,rfl,seq_snoc ini A M q1 hxc,hm.fit,hm.clo⟩ hm.no g2 he
  ·rw [if_neg (show ¬isF l [105,109,112,108,105,101,115] s=true from hx)] at h
   simp only [Option.some.injEq,Prod.mk.injEq] at h
   obtain⟨rfl,rfl⟩:=h
   refine⟨hg,fun q hq=>?_⟩
   by_cases hqc:q=2
   ·subst hqc;simpa using hx
   ·exact hno q (by omega)
theorem implies_c (ho:GoodQ l 0 of):GoodQ l 3 (kMj l of):=by
 have hors:GoodQ l 2 (orsP l of):=leftP_c (c:=1) (by decide) (by decide) (leftP_c (c:=0) (by decide) (by decide) ho)
 intro s n s' h he
 unfold kMj at h
 simp only [Option.bind_eq_some_iff,Option.map_eq_some_iff] at h
 obtain⟨⟨m,s1⟩,h1,⟨a,s2⟩,h2,h3⟩:=h
 simp only [Prod.mk.injEq] at h3
 obtain⟨rfl,rfl⟩:=h3
 simp only at h2
 have hs1:=implLoop_er _ _ _ _ _ h2 he
 obtain⟨h0,hm⟩:=hors s m s1 h1 hs1
 obtain⟨⟨ini,x,M,rfl,q1,q2,q3⟩,r4⟩:=implLoop_c hors (Lp l s.nx) _ [m] s1 a s2 ⟨[],m,_,rfl,Nat.le_refl _,hm.fit,hm.clo⟩ hm.no h2 he
 obtain⟨i2,i3⟩:=implFold_c ini x _ M _ q1 q2 q3
 exact⟨h0,i2,i3,r4⟩
theorem formula_c (ho:GoodQ l 0 of):GoodQ l 4 (kLx l of):=leftP_c (c:=3) (by decide) (by decide) (implies_c ho)
theorem level_c {of:Rd} {s:PS} {n:Nd} {s':PS} (h:levelP of s=some (n,s')) (he:s'.er=0):s.er=0∧∃s2,of ⟨s.nx+1,0,s.dp+1⟩=some (n,s2)∧s2.er=0∧s'.nx=s2.nx:=by
 unfold levelP at h
 simp only at h
 by_cases h1:s.dp=256
 ·rw [if_pos h1] at h
  rw [if_neg (kFq (by decide))] at h
  simp only [Option.some.injEq,Prod.mk.injEq] at h
  rw [←h.2] at he
  exact absurd he (kFq (by decide))
 ·rw [if_neg h1] at h
  by_cases h2:s.er=0
  ·rw [if_pos h2] at h
   simp only [Option.map_eq_some_iff] at h
   obtain⟨⟨m,s2⟩,g1,g2⟩:=h
   simp only [Prod.mk.injEq] at g2
   obtain⟨rfl,rfl⟩:=g2
   have he2:s2.er=0:=he
   have e:({ nx:=s.nx+1,er:=s.er,dp:=s.dp+1 }:PS)=⟨s.nx+1,0,s.dp+1⟩:=by rw [h2]
   exact⟨h2,s2,by rw [←e];exact g1,he2,rfl⟩
  ·rw [if_neg h2] at h
   simp only [Option.some.injEq,Prod.mk.injEq] at h
   rw [←h.2] at he
   exact absurd he h2
theorem noOp_at {b:Nat} {s t:PS} (h:NoOp l b s) (hn:t.nx=s.nx) (hs:s.er=0) (ht:t.er=0):NoOp l b t:=by
 intro c hc
 have:=h c hc
 unfold isF tkAt at this ⊢
 rw [hn,ht]
 rw [hs] at this
 exact this
theorem atom_c {A:Nat} {op so n m:Int} {names:List (List UInt8)} {ls:List Nd} {s':PS} (hop:op<11) (h:A+(if op=10 then 1 else 0)≤Lp l s'.nx):GoodC l 0 A (.mk op names so n m ls) s' :=
 ⟨fitc_atom hop h _ _,Or.inl (fitc_atom hop h _ _),fun c hc=>by omega⟩
theorem paren_c {fm:Rd} (hf:GoodQ l 4 fm) {s:PS} {n:Nd} {s':PS} (hk:(tkAt l s).kind≠0) (ht:(tkAt l s).text=[40]) (h:parenP l fm s=some (n,s')) (he:s'.er=0):s.er=0∧GoodC l 0 (Lp l s.nx) n s':=by
 obtain⟨h1,s2,h3,h4,h5⟩:=level_c h he
 simp only [Option.map_eq_some_iff] at h3
 obtain⟨⟨m,s3⟩,g1,g2⟩:=h3
 simp only [Prod.mk.injEq] at g2
 obtain⟨rfl,rfl⟩:=g2
 obtain⟨-,hg⟩:=hf _ m s3 g1 (kUk h4)
 have hst:=Lp_step (l:=l) hk
 have hl:lp (tkAt l s)=1:=by unfold lp;rw [if_pos ht]
 have hfit:=hg.fit.2 (not_flag m)
 have hle:=kYq (l:=l) (need_le (l:=l) [41] s3)
 have:Lp l s.nx+1+pcF true m≤Lp l s'.nx:=by
  rw [h5]
  simp only at hfit
  omega
 exact⟨h1,fitc_par this _ _,Or.inl (fitc_par this _ _),fun c hc=>by omega⟩
theorem not_c {of:Rd} (hf:GoodQ l 0 of):GoodQ l 0 (notP of):=by
 intro s n s' h he
 obtain⟨h1,s2,h3,h4,h5⟩:=level_c h he
 simp only [Option.map_eq_some_iff] at h3
 obtain⟨⟨m,s3⟩,g1,g2⟩:=h3
 simp only [Prod.mk.injEq] at g2
 obtain⟨rfl,rfl⟩:=g2
 obtain⟨-,hg⟩:=hf _ m s3 g1 h4
 have hst:Lp l s.nx≤Lp l (s.nx+1):=kYq (Nat.le_succ _)
 refine⟨h1,fitc_not ?_,hg.clo.imp (fun q=>fitc_not ?_) (fun q=>noOp_at q h5 h4 he),fun c hc=>by omega⟩
 ·rw [h5];exact fitc_mono hg.fit hst (Nat.le_refl _)
 ·rw [h5];exact fitc_mono q hst (Nat.le_refl _)
theorem bind_c {fm:Rd} (hf:GoodQ l 4 fm) {op:Int} (hop:op=16∨op=17):GoodQ l 0 (bindP l op fm):=by
 intro s n s' h he
 obtain⟨h1,s2,h3,h4,h5⟩:=level_c h he
 simp only [Option.map_eq_some_iff] at h3
 obtain⟨⟨m,s3⟩,g1,g2⟩:=h3
 simp only [Prod.mk.injEq] at g2
 obtain⟨rfl,rfl⟩:=g2
 obtain⟨-,hg⟩:=hf _ m s3 g1 h4
 have hst:Lp l s.nx≤Lp l (kPj l [58] (kAj l (kBz l ⟨s.nx+1,0,s.dp+1⟩).2).2).nx:=kYq (Nat.le_trans (Nat.le_succ _) (Nat.le_trans (sort_le ⟨s.nx+1,0,s.dp+1⟩) (Nat.le_trans (ident_le _) (need_le _ _))))
 have hlev:levF op=0:=by unfold levF;rw [if_neg (by omega),if_neg (by omega),if_neg (by omega),if_neg (by omega)]
 have hfit:=hg.fit.2 (not_flag m)
 refine⟨h1,⟨fun h=>?_,fun _=>?_⟩,Or.inr (noOp_at hg.no h5 h4 he),fun c hc=>by omega⟩
 ·simp only [opF,hlev] at h
  rcases h with h | ⟨-,h⟩
  ·omega
  ·cases h
 ·unfold pcF
  rw [if_neg (by omega),if_neg (by omega),if_neg (by omega)]
  simp only [pcsF,List.getD_cons_zero]
  rw [h5]
  omega
theorem atomP_c:GoodQ l 0 (atomP l):=by
 intro s n s' h he
 unfold atomP at h
 simp only at h
 have hid:=ident_le (l:=l) s
 have ier:∀s:PS,(kAj l s).2.er=0→s.er=0:=by
  intro s h
  unfold kAj at h
  simp only at h
  by_cases hk:(tkAt l s).kind=1
  ·rw [if_pos hk] at h
   by_cases he:s.er=0
   ·exact he
   ·rw [if_neg he] at h;exact h
  ·rw [if_neg hk,if_neg (kFq (by decide))] at h
   exact absurd h (kFq (by decide))
 by_cases h1:isF l [40] (kAj l s).2=true
 ·rw [if_pos h1] at h
  have e1:=ier s (kQx h1)
  have hk:=kRx h1
  have ht:(tkAt l (kAj l s).2).text=[40]:=by
   unfold isF at h1
   simp only [Bool.and_eq_true,decide_eq_true_eq] at h1
   exact h1.2
  have hst:=Lp_step (l:=l) hk
  have hl:lp (tkAt l (kAj l s).2)=1:=by unfold lp;rw [if_pos ht]
  have hm:=kYq (l:=l) hid
  unfold callP at h
  simp only at h
  by_cases h2:isF l [41] (kBx (kAj l s).2)=true
  ·rw [if_pos h2] at h
   cases h
   refine⟨e1,atom_c (by decide) ?_⟩
   have:=kYq (l:=l) (show (kAj l s).2.nx+1≤(kAj l s).2.nx+1+1 by omega)
   simp only [kBx,if_true] at this ⊢
   omega
  ·rw [if_neg h2] at h
   simp only [Option.map_eq_some_iff] at h
   obtain⟨⟨xs,s2⟩,g1,g2⟩:=h
   simp only [Prod.mk.injEq] at g2
   obtain⟨rfl,rfl⟩:=g2
   have:=kYq (l:=l) (callLoop_le _ _ _ _ _ g1)
   refine⟨e1,atom_c (by decide) ?_⟩
   simp only [kBx,if_true] at this ⊢
   omega
 ·rw [if_neg h1] at h
  by_cases h2:isF l [105,115] (kAj l s).2=true
  ·rw [if_pos h2] at h
   cases h
   have:=number_le (l:=l) 0 7 (kBx (kAj l s).2)
   simp only [kBx] at this
   exact⟨ier s (kQx h2),atom_c (by decide) (by rw [if_neg (by decide)];exact kYq (by simp only [kBx];omega))⟩
  ·rw [if_neg h2] at h
   cases hf:kPk l (kAj l s).2 kQz 0 with
   | none =>
    rw [hf] at h
    cases h
    exact absurd he (kFq (by decide))
   | some i =>
    rw [hf] at h
    cases h
    obtain⟨-,h5,h6⟩:=first_le _ _ _ _ hf
    have h5':i<5:=by simpa [kQz] using h5
    have:=ident_le (l:=l) (kBx (kAj l s).2)
    simp only [kBx] at this
    exact⟨ier s h6,atom_c (by omega) (by rw [if_neg (by omega)];exact kYq (by simp only [kBx];omega))⟩
theorem size_c {s:PS} (_h:s.er=0):GoodC l 0 (Lp l s.nx) (sizeP l s).1 (sizeP l s).2:=by
 unfold sizeP
 simp only
 refine atom_c (by decide) ?_
 rw [if_neg (by decide)]
 exact kYq (Nat.le_trans (Nat.le_succ _) (Nat.le_trans (ident_le (kBx s)) (Nat.le_trans (need_le _ _) (Nat.le_trans (number_le _ _ _) (Nat.le_trans (need_le _ _) (number_le _ _ _))))))
theorem one_c {s:PS} (_h:s.er=0):GoodC l 0 (Lp l s.nx) (oneP l s).1 (oneP l s).2:=by
 unfold oneP
 simp only
 refine atom_c (by decide) ?_
 rw [if_neg (by decide)]
 exact kYq (Nat.le_trans (Nat.le_succ _) (ident_le (kBx s)))
theorem operand_c:∀d:Nat,GoodQ l 0 (kCj l d)
 | 0=>by intro s n s' h;cases h
 | d+1=>by
  have ih:=operand_c d
  have hfm:=formula_c ih
  intro s n s' h he
  unfold kCj at h
  simp only at h
  by_cases hk:((tkAt l s).kind=3∨(tkAt l s).kind=4)∧s.er=0
  ·rw [if_pos hk] at h
   by_cases t1:(tkAt l s).text=[116,114,117,101]
   ·rw [if_pos t1] at h
    cases h
    exact⟨hk.2,atom_c (by decide) (by rw [if_neg (by decide)];exact kYq (Nat.le_succ _))⟩
   rw [if_neg t1] at h
   by_cases t2:(tkAt l s).text=[102,97,108,115,101]
   ·rw [if_pos t2] at h
    cases h
    exact⟨hk.2,atom_c (by decide) (by rw [if_neg (by decide)];exact kYq (Nat.le_succ _))⟩
   rw [if_neg t2] at h
   by_cases t3:(tkAt l s).text=[115,105,122,101]
   ·rw [if_pos t3] at h
    simp only [Option.some.injEq] at h
    have:=size_c (l:=l) hk.2
    rw [h] at this
    exact⟨hk.2,this⟩
   rw [if_neg t3] at h
   by_cases t4:(tkAt l s).text=[111,110,101]
   ·rw [if_pos t4] at h
    simp only [Option.some.injEq] at h
    have:=one_c (l:=l) hk.2
    rw [h] at this
    exact⟨hk.2,this⟩
   rw [if_neg t4] at h
   by_cases t5:(tkAt l s).text=[110,111,116]
   ·rw [if_pos t5] at h
    exact not_c ih s n s' h he
   rw [if_neg t5] at h
   by_cases t6:(tkAt l s).text=[115,111,109,101]
   ·rw [if_pos t6] at h
    exact bind_c hfm (Or.inl rfl) s n s' h he
   rw [if_neg t6] at h
   by_cases t7:(tkAt l s).text=[101,118,101,114,121]
   ·rw [if_pos t7] at h
    exact bind_c hfm (Or.inr rfl) s n s' h he
   rw [if_neg t7] at h
   by_cases t8:(tkAt l s).text=[40]
   ·rw [if_pos t8] at h
    exact paren_c hfm (by omega) t8 h he
   rw [if_neg t8] at h
   exact atomP_c s n s' h he
  ·rw [if_neg hk] at h
   exact atomP_c s n s' h he
theorem query_c {q:Qn} {s:PS} (h:kFw l=some (q,s)) (he:s.er=0):pcF true q.body≤lps l:=by
 unfold kFw at h
 simp only [Option.bind_eq_some_iff,Option.map_eq_some_iff] at h
 obtain⟨⟨f,s1⟩,h1,⟨n,s2⟩,h2,h3⟩:=h
 simp only [Prod.mk.injEq] at h3
 obtain⟨rfl,rfl⟩:=h3
 simp only at h2
 obtain⟨-,hg⟩:=(formula_c (operand_c 257):GoodQ l 4 (wholeP l)) s1 n s2 h2 he
 have:=hg.fit.2 (not_flag n)
 have hl:Lp l s2.nx≤lps l:=by
  unfold Lp
  conv=>rhs;rw [←List.take_append_drop s2.nx l]
  rw [lps_app]
  omega
 show pcF true n≤lps l
 omega
end
end Go.Proofs.YtkhbpebpljdifaaGreatDoor
namespace Go.Proofs.YtkhbpebpljdifaaGreatDoor
open Go.RowKit Go.PL Go.Maps
mutual
def kPx:Nd→Nd→Bool
 | .mk op xs so n m l,.mk op' xs' so' n' m' l'=>decide (op=op')&&decide (so=so')&&decide (n=n')&&decide (m=m')&&decide (xs=xs')&&samesF l l'
def samesF:List Nd→List Nd→Bool
 | [],[]=>true
 | x::r,y::t=>kPx x y&&samesF r t
 | [],_::_=>false
 | _::_,[]=>false
end
mutual
theorem sameF_eq:∀(a b:Nd),kPx a b=true↔a=b
 | .mk op xs so n m l,.mk op' xs' so' n' m' l'=>by
  unfold kPx
  simp only [Bool.and_eq_true,decide_eq_true_eq,samesF_eq l l',Nd.mk.injEq]
  constructor
  ·rintro⟨⟨⟨⟨⟨h1,h2⟩,h3⟩,h4⟩,h5⟩,h6⟩;exact⟨h1,h5,h2,h3,h4,h6⟩
  ·rintro⟨h1,h5,h2,h3,h4,h6⟩;exact⟨⟨⟨⟨⟨h1,h2⟩,h3⟩,h4⟩,h5⟩,h6⟩
theorem samesF_eq:∀(a b:List Nd),samesF a b=true↔a=b
 | [],[]=>by simp [samesF]
 | x::r,y::t=>by
  unfold samesF
  simp only [Bool.and_eq_true,sameF_eq x y,samesF_eq r t,List.cons.injEq]
 | [],_::_=>by simp [samesF]
 | _::_,[]=>by simp [samesF]
end
theorem names_calls (xs ys:List (List UInt8)) (v v':Value) (P P':Nat→Prop) (w:World) (hl:xs.length≤10000000) (_hl':ys.length≤10000000) (h:SlP w P v xs.length (xs.map sV)) (h':SlP w P' v' ys.length (ys.map sV)):Calls Tryz.prog 60 #[v,v'] w fun e w'=>e=.returned (.bool (decide (xs=ys)))∧Upto [] w w':=by
 obtain⟨a,c,rfl,hg⟩:=h.get
 obtain⟨a',c',rfl,hg'⟩:=h'.get
 have HG:Hid (∀i x,xs[i]?=some x→∃g o,a=some ⟨g,o,none⟩∧w.cell? ⟨g,o+i,none⟩=some (.string ⟨x.toArray⟩)):=Lib.hid (fun i x hi=>hg i _ (by rw [List.getElem?_map,hi];rfl))
 have HG':Hid (∀i x,ys[i]?=some x→∃g o,a'=some ⟨g,o,none⟩∧w.cell? ⟨g,o+i,none⟩=some (.string ⟨x.toArray⟩)):=Lib.hid (fun i x hi=>hg' i _ (by rw [List.getElem?_map,hi];rfl))
 have HU0:=Lib.hid (Upto.refl [] w)
 clear h h' hg hg'
 by_cases hne:xs.length≠ys.length
 ·have HF:Hid (decide (xs=ys)=false):=Lib.hid (by simp;intro e;exact hne (by rw [e]))
  rw [HF.out]
  generalize hA:xs.length=A at *
  generalize hB:ys.length=B at *
  have q1:((A:Int)==(B:Int))=false:=by rw [beq_eq_false_iff_ne];omega
  have q2:((A:Int) != (B:Int))=true:=by rw [bne,q1];rfl
  clear hne HF hA hB
  go_enter Tryz.func60,Tryz.ntmps60
  go_wp2_with fail
  go_ret
  exact⟨rfl,HU0.out⟩
 have hne:=Decidable.not_not.1 hne
 obtain⟨ll,hll⟩:∃ll,xs.length=ll:=⟨_,rfl⟩
 have hll':ys.length=ll:=hne▸hll
 have HLL:=Lib.hid (And.intro hll hll')
 rw [hll,hll']
 have hL0:(0:Int)≤ll:=by omega
 have hL1:(ll:Int)≤10000000:=by omega
 clear hll hll' hl _hl' hne
 obtain⟨R,hR⟩:∃R,Hid (decide (xs=ys)=R):=⟨_,Lib.hid rfl⟩
 rw [hR.out]
 go_enter Tryz.func60,Tryz.ntmps60
 go_wp2_with fail
 go_loopw [13] (fun i wr=>∃j:Nat,j≤ll∧i=.int .i64 j∧Hid (∀q,q<j→xs[q]?=ys[q]?)∧Hid (Upto [] w wr)) (fun i _=>ll-(intOf i).toNat)
 case atStart=>exact⟨0,by omega,rfl,Lib.hid (fun q hq=>by omega),Lib.hid (Upto.refl _ _)⟩
 case round =>
  obtain⟨j,hj,rfl,HE,HU⟩:=hrel
  have hj0:(0:Int)≤j:=by omega
  rcases Nat.lt_or_ge j ll with hlt | hge
  ·obtain⟨x,hx⟩:∃x,xs[j]?=some x:=⟨_,List.getElem?_eq_getElem (by have:=HLL.out.1;omega)⟩
   obtain⟨y,hy⟩:∃y,ys[j]?=some y:=⟨_,List.getElem?_eq_getElem (by have:=HLL.out.2;omega)⟩
   obtain⟨g,o,rfl,c0⟩:=HG.out j x hx
   obtain⟨g',o',rfl,c1⟩:=HG'.out j y hy
   replace c0:=kAw HU.out c0
   replace c1:=kAw HU.out c1
   have hd:=(Upto.refl [] wr).drew
   have d0:=(hd.cell (p:=⟨g,o+j,none⟩) (World.block_lt_of_cell? wr _ c0) (by simp)).trans c0
   have d1:=(hd.cell (p:=⟨g',o'+j,none⟩) (World.block_lt_of_cell? wr _ c1) (by simp)).trans c1
   have HD:=Lib.hid (HU.out.trans_ext hd)
   have hltI:(j:Int)<ll:=by omega
   by_cases hxy:x=y
   ·subst hxy
    have HE2:Hid (∀q,q<j+1→xs[q]?=ys[q]?):=Lib.hid (fun q hq=>by
     by_cases hqj:q=j
     ·subst hqj;rw [hx,hy]
     ·exact HE.out q (by omega))
    clear hx hy hd HE
    go_wp2_with fail
    go_region
    all_goals (
     go_wp2_with fail
     go_roundw
     case rel=>exact⟨j+1,by omega,by go_num,HE2,HD⟩
     case measure=>simp [intOf];omega)
   ·have HF:Hid (R=false):=Lib.hid (by
     rw [←hR.out,decide_eq_false_iff_not]
     intro h
     rw [h,hy] at hx
     exact hxy (Option.some.inj hx).symm)
    have q1:(x==y)=false:=by simpa using hxy
    have q2:(x != y)=true:=by rw [bne,q1];rfl
    clear hx hy hd HE hxy
    go_wp2_with fail
    go_region
    all_goals (
     go_wp2_with fail
     go_ret
     rw [HF.out]
     exact⟨rfl,HD.out⟩)
  ·obtain rfl:j=ll:=by omega
   have hgeI:(j:Int)≥j:=by omega
   have HF:Hid (R=true):=Lib.hid (by
    rw [←hR.out,decide_eq_true_eq]
    apply List.ext_getElem?
    intro i
    by_cases hi:i<j
    ·exact HE.out i hi
    ·rw [List.getElem?_eq_none (by have:=HLL.out.1;omega),List.getElem?_eq_none (by have:=HLL.out.2;omega)])
   clear HE
   go_wp2
   go_ret
   rw [HF.out]
   exact⟨rfl,HU.out⟩
theorem vars_calls (xs ys:List (List UInt8×Int)) (v v':Value) (P P':Nat→Prop) (w:World) (hl:xs.length≤10000000) (_hl':ys.length≤10000000) (h:VarsV w P v xs) (h':VarsV w P' v' ys):Calls Tryz.prog 59 #[v,v'] w fun e w'=>e=.returned (.bool (decide (xs=ys)))∧Upto [] w w':=by
 obtain⟨a,c,rfl,hg⟩:=SlP.get h
 obtain⟨a',c',rfl,hg'⟩:=SlP.get h'
 have HG:Hid (∀i x,xs[i]?=some x→∃g o,a=some ⟨g,o,none⟩∧w.cell? ⟨g,o+i*2,none⟩=some (.string ⟨x.1.toArray⟩)∧w.cell? ⟨g,o+i*2+1,none⟩=some (.int .i64 x.2)):=Lib.hid (fun i x hi=>by
  obtain⟨g,o,rfl,h1⟩:=hg _ _ (vars_at hi).1
  obtain⟨g2,o2,e,h2⟩:=hg _ _ (vars_at hi).2
  simp at e
  obtain⟨rfl,rfl⟩:=e
  exact⟨g,o,rfl,h1,h2⟩)
 have HG':Hid (∀i x,ys[i]?=some x→∃g o,a'=some ⟨g,o,none⟩∧w.cell? ⟨g,o+i*2,none⟩=some (.string ⟨x.1.toArray⟩)∧w.cell? ⟨g,o+i*2+1,none⟩=some (.int .i64 x.2)):=Lib.hid (fun i x hi=>by
  obtain⟨g,o,rfl,h1⟩:=hg' _ _ (vars_at hi).1
  obtain⟨g2,o2,e,h2⟩:=hg' _ _ (vars_at hi).2
  simp at e
  obtain⟨rfl,rfl⟩:=e
  exact⟨g,o,rfl,h1,h2⟩)
 have HU0:=Lib.hid (Upto.refl [] w)
 clear h h' hg hg'
 by_cases hne:xs.length≠ys.length
 ·have HF:Hid (decide (xs=ys)=false):=Lib.hid (by simp;intro e;exact hne (by rw [e]))
  rw [HF.out]
  generalize hA:xs.length=A at *
  generalize hB:ys.length=B at *
  have q1:((A:Int)==(B:Int))=false:=by rw [beq_eq_false_iff_ne];omega
  have q2:((A:Int) != (B:Int))=true:=by rw [bne,q1];rfl
  clear hne HF hA hB
  go_enter Tryz.func59,Tryz.ntmps59
  go_wp2_with fail
  go_ret
  exact⟨rfl,HU0.out⟩
 have hne:=Decidable.not_not.1 hne
 obtain⟨ll,hll⟩:∃ll,xs.length=ll:=⟨_,rfl⟩
 have hll':ys.length=ll:=hne▸hll
 have HLL:=Lib.hid (And.intro hll hll')
 rw [hll,hll']
 have hL0:(0:Int)≤ll:=by omega
 have hL1:(ll:Int)≤10000000:=by omega
 clear hll hll' hl _hl' hne
 obtain⟨R,hR⟩:∃R,Hid (decide (xs=ys)=R):=⟨_,Lib.hid rfl⟩
 rw [hR.out]
 go_enter Tryz.func59,Tryz.ntmps59
 go_wp2_with fail
 go_loopw [13] (fun i wr=>∃j:Nat,j≤ll∧i=.int .i64 j∧Hid (∀q,q<j→xs[q]?=ys[q]?)∧Hid (Upto [] w wr)) (fun i _=>ll-(intOf i).toNat)
 case atStart=>exact⟨0,by omega,rfl,Lib.hid (fun q hq=>by omega),Lib.hid (Upto.refl _ _)⟩
 case round =>
  obtain⟨j,hj,rfl,HE,HU⟩:=hrel
  have hj0:(0:Int)≤j:=by omega
  rcases Nat.lt_or_ge j ll with hlt | hge
  ·obtain⟨x,hx⟩:∃x,xs[j]?=some x:=⟨_,List.getElem?_eq_getElem (by have:=HLL.out.1;omega)⟩
   obtain⟨y,hy⟩:∃y,ys[j]?=some y:=⟨_,List.getElem?_eq_getElem (by have:=HLL.out.2;omega)⟩
   obtain⟨g,o,rfl,c0,c1⟩:=HG.out j x hx
   obtain⟨g',o',rfl,c2,c3⟩:=HG'.out j y hy
   replace c0:=kAw HU.out c0
   replace c1:=kAw HU.out c1
   replace c2:=kAw HU.out c2
   replace c3:=kAw HU.out c3
   have hd:=(Upto.refl [] wr).drew
   have d0:=(hd.cell (p:=⟨g,o+j*2,none⟩) (World.block_lt_of_cell? wr _ c0) (by simp)).trans c0
   have d1:=(hd.cell (p:=⟨g,o+j*2+1,none⟩) (World.block_lt_of_cell? wr _ c1) (by simp)).trans c1
   have d2:=(hd.cell (p:=⟨g',o'+j*2,none⟩) (World.block_lt_of_cell? wr _ c2) (by simp)).trans c2
   have d3:=(hd.cell (p:=⟨g',o'+j*2+1,none⟩) (World.block_lt_of_cell? wr _ c3) (by simp)).trans c3
   have HD:=Lib.hid (HU.out.trans_ext hd)
   have hltI:(j:Int)<ll:=by omega
   obtain⟨x1,x2⟩:=x
   obtain⟨y1,y2⟩:=y
   simp only at c0 c1 c2 c3 d0 d1 d2 d3
   by_cases hxy:x1=y1
   ·subst hxy
    by_cases hxy2:x2=y2
    ·subst hxy2
     have HE2:Hid (∀q,q<j+1→xs[q]?=ys[q]?):=Lib.hid (fun q hq=>by
      by_cases hqj:q=j
      ·subst hqj;rw [hx,hy]
      ·exact HE.out q (by omega))
     clear hx hy hd HE
     go_wp2_with fail
     go_region
     all_goals (
      go_wp2_with fail
      go_roundw
      case rel=>exact⟨j+1,by omega,by go_num,HE2,HD⟩
      case measure=>simp [intOf];omega)
    ·have HF:Hid (R=false):=Lib.hid (by
      rw [←hR.out,decide_eq_false_iff_not]
      intro h
      rw [h,hy] at hx
      have:=Option.some.inj hx
      simp at this
      exact hxy2 this.symm)
     have q1:(x2==y2)=false:=by rw [beq_eq_false_iff_ne];exact hxy2
     have q2:(x2 != y2)=true:=by rw [bne,q1];rfl
     clear hx hy hd HE
     go_wp2_with fail
     go_region
     all_goals (
      go_wp2_with fail
      go_ret
      rw [HF.out]
      exact⟨rfl,HD.out⟩)
   ·have HF:Hid (R=false):=Lib.hid (by
     rw [←hR.out,decide_eq_false_iff_not]
     intro h
     rw [h,hy] at hx
     have:=Option.some.inj hx
     simp at this
     exact hxy this.1.symm)
    have q1:(x1==y1)=false:=by simpa using hxy
    have q2:(x1 != y1)=true:=by rw [bne,q1];rfl
    clear hx hy hd HE
    go_wp2_with fail
    go_region
    all_goals (
     go_wp2_with fail
     go_ret
     rw [HF.out]
     exact⟨rfl,HD.out⟩)
  ·obtain rfl:j=ll:=by omega
   have hgeI:(j:Int)≥j:=by omega
   have HF:Hid (R=true):=Lib.hid (by
    rw [←hR.out,decide_eq_true_eq]
    apply List.ext_getElem?
    intro i
    by_cases hi:i<j
    ·exact HE.out i hi
    ·rw [List.getElem?_eq_none (by have:=HLL.out.1;omega),List.getElem?_eq_none (by have:=HLL.out.2;omega)])
   clear HE
   go_wp2
   go_ret
   rw [HF.out]
   exact⟨rfl,HU.out⟩
theorem eqf_calls (l l':List Nd) (a a':Option Addr) (c c':Nat) (P P':Nat→Prop) (w:World) (hl:l.length≤10000000) (_hl':l'.length≤10000000) (h:LsAt w P a l) (h':LsAt w P' a' l')
  (ih:∀x∈l,∀y∈l',∀u u' w1,NdV w1 P x u→NdV w1 P' y u'→Calls Tryz.prog 28 #[u,u'] w1 fun e w'=>e=.returned (.bool (kPx x y))∧Upto [] w1 w') :
  Calls Tryz.prog 61 #[.slice a l.length c,.slice a' l'.length c',.func (.func 28) #[] #[]] w fun e w'=>e=.returned (.bool (samesF l l'))∧Upto [] w w':=by
 have HG:=Lib.hid h
 have HG':=Lib.hid h'
 have HIH:=Lib.hid ih
 have HU0:=Lib.hid (Upto.refl [] w)
 clear h h' ih
 by_cases hne:l.length≠l'.length
 ·have HF:Hid (samesF l l'=false):=Lib.hid (by
   rw [Bool.eq_false_iff]
   intro e
   rw [samesF_eq] at e
   exact hne (by rw [e]))
  rw [HF.out]
  generalize hA:l.length=A at *
  generalize hB:l'.length=B at *
  have q1:((A:Int)==(B:Int))=false:=by rw [beq_eq_false_iff_ne];omega
  have q2:((A:Int) != (B:Int))=true:=by rw [bne,q1];rfl
  clear hne HF hA hB
  go_enter Tryz.func61,Tryz.ntmps61
  go_wp2_with fail
  go_ret
  exact⟨rfl,HU0.out⟩
 have hne:=Decidable.not_not.1 hne
 obtain⟨ll,hll⟩:∃ll,l.length=ll:=⟨_,rfl⟩
 have hll':l'.length=ll:=hne▸hll
 have HLL:=Lib.hid (And.intro hll hll')
 rw [hll,hll']
 have hL0:(0:Int)≤ll:=by omega
 have hL1:(ll:Int)≤10000000:=by omega
 clear hll hll' hl _hl' hne
 obtain⟨R,hR⟩:∃R,Hid (samesF l l'=R):=⟨_,Lib.hid rfl⟩
 rw [hR.out]
 go_enter Tryz.func61,Tryz.ntmps61
 go_wp2_with fail
 go_loopw [17] (fun i wr=>∃j:Nat,j≤ll∧i=.int .i64 j∧Hid (∀q x y,q<j→l[q]?=some x→l'[q]?=some y→x=y)∧Hid (Upto [] w wr)) (fun i _=>ll-(intOf i).toNat)
 case atStart=>exact⟨0,by omega,rfl,Lib.hid (fun q x y hq=>by omega),Lib.hid (Upto.refl _ _)⟩
 case round =>
  obtain⟨j,hj,rfl,HE,HU⟩:=hrel
  have hj0:(0:Int)≤j:=by omega
  rcases Nat.lt_or_ge j ll with hlt | hge
  ·obtain⟨x,hx⟩:∃x,l[j]?=some x:=⟨_,List.getElem?_eq_getElem (by have:=HLL.out.1;omega)⟩
   obtain⟨y,hy⟩:∃y,l'[j]?=some y:=⟨_,List.getElem?_eq_getElem (by have:=HLL.out.2;omega)⟩
   obtain⟨g,o,xo,xn1,xn2,xn3,xs,xm,xq,xl1,xl2,xl3,rfl,-⟩:=HG.out j x hx
   obtain⟨g',o',yo,yn1,yn2,yn3,ys,ym,yq,yl1,yl2,yl3,rfl,-⟩:=HG'.out j y hy
   obtain⟨g1,o1,xo,xn1,xn2,xn3,xs,xm,xq,xl1,xl2,xl3,e1,c0,c1,c2,c3,c4,c5,hn⟩:=(HG.out.ext HU.out) j x hx
   have hua:=(Upto.refl [] wr).alloc (.cells #[.int .i64 xo,.slice xn1 xn2 xn3,.int .i64 xs,.int .i64 xm,.int .i64 xq,.slice xl1 xl2 xl3] 34)
   obtain⟨g2,o2,yo,yn1,yn2,yn3,ys,ym,yq,yl1,yl2,yl3,e2,d0,d1,d2,d3,d4,d5,hn'⟩:=(HG'.out.ext (HU.out.trans_ext hua)) j y hy
   simp at e1 e2
   obtain⟨rfl,rfl⟩:=e1
   obtain⟨rfl,rfl⟩:=e2
   have hub:=(Upto.refl [] (wr.alloc (.cells #[.int .i64 xo,.slice xn1 xn2 xn3,.int .i64 xs,.int .i64 xm,.int .i64 xq,.slice xl1 xl2 xl3] 34))).alloc (.cells #[.int .i64 yo,.slice yn1 yn2 yn3,.int .i64 ys,.int .i64 ym,.int .i64 yq,.slice yl1 yl2 yl3] 34)
   have HC:=Lib.hid (HIH.out x (List.mem_of_getElem? hx) y (List.mem_of_getElem? hy) _ _ ((wr.alloc (.cells #[.int .i64 xo,.slice xn1 xn2 xn3,.int .i64 xs,.int .i64 xm,.int .i64 xq,.slice xl1 xl2 xl3] 34)).alloc (.cells #[.int .i64 yo,.slice yn1 yn2 yn3,.int .i64 ys,.int .i64 ym,.int .i64 yq,.slice yl1 yl2 yl3] 34)) ((hn.ext hua).ext hub) (hn'.ext hub))
   have HU2:=Lib.hid ((HU.out.trans_ext hua).trans_ext hub)
   have hv8:=hub.at (kAq wr (.cells #[.int .i64 xo,.slice xn1 xn2 xn3,.int .i64 xs,.int .i64 xm,.int .i64 xq,.slice xl1 xl2 xl3] 34)) (by simp)
   obtain⟨t0,t1,t2,t3,t4,t5⟩:=kAx hv8
   obtain⟨u0,u1,u2,u3,u4,u5⟩:=kDk hv8
   have hltI:(j:Int)<ll:=by omega
   have hbb:kPx x y=true∨kPx x y=false:=by cases kPx x y<;>simp
   rcases hbb with hb | hb
   ·have HE2:Hid (∀q x y,q<j+1→l[q]?=some x→l'[q]?=some y→x=y):=Lib.hid (fun q x' y' hq hx' hy'=>by
     by_cases hqi:q=j
     ·subst hqi
      rw [hx] at hx'
      rw [hy] at hy'
      cases hx'
      cases hy'
      exact (sameF_eq x y).1 hb
     ·exact HE.out q x' y' (by omega) hx' hy')
    rw [hb] at HC
    clear hx hy hn hn' hua hub hv8 hb HE
    go_wp2_with fail
    refine HC.out.mono ?_
    rintro e w5 ⟨rfl,hu5⟩
    have HU5:=Lib.hid (HU2.out.trans_ext hu5)
    clear hu5
    go_wp2_with fail
    go_roundw
    case rel=>exact⟨j+1,by omega,by go_num,HE2,HU5⟩
    case measure=>simp [intOf];omega
   ·have HF:Hid (R=false):=Lib.hid (by
     rw [←hR.out,Bool.eq_false_iff]
     intro h
     rw [samesF_eq] at h
     rw [h,hy] at hx
     have:=Option.some.inj hx
     subst this
     rw [(sameF_eq y y).2 rfl] at hb
     cases hb)
    rw [hb] at HC
    clear hx hy hn hn' hua hub hv8 hb HE
    go_wp2_with fail
    refine HC.out.mono ?_
    rintro e w5 ⟨rfl,hu5⟩
    have HU5:=Lib.hid (HU2.out.trans_ext hu5)
    clear hu5
    go_wp2_with fail
    go_ret
    rw [HF.out]
    exact⟨rfl,HU5.out⟩
  ·obtain rfl:j=ll:=by omega
   have hgeI:(j:Int)≥j:=by omega
   have HF:Hid (R=true):=Lib.hid (by
    rw [←hR.out,samesF_eq]
    apply List.ext_getElem?
    intro i
    by_cases hi:i<j
    ·obtain⟨x,hx⟩:∃x,l[i]?=some x:=⟨_,List.getElem?_eq_getElem (by have:=HLL.out.1;omega)⟩
     obtain⟨y,hy⟩:∃y,l'[i]?=some y:=⟨_,List.getElem?_eq_getElem (by have:=HLL.out.2;omega)⟩
     rw [hx,hy,HE.out i x y hi hx hy]
    ·rw [List.getElem?_eq_none (by have:=HLL.out.1;omega),List.getElem?_eq_none (by have:=HLL.out.2;omega)])
   clear HE
   go_wp2
   go_ret
   rw [HF.out]
   exact⟨rfl,HU.out⟩
theorem equal_calls:∀(k:Nat) (x:Nd),kCz x≤k→k≤10000000→bigN x→∀(y:Nd),kCz y≤10000000→bigN y→∀(P P':Nat→Prop) (v v':Value) (w:World),NdV w P x v→NdV w P' y v'→Calls Tryz.prog 28 #[v,v'] w fun e w'=>e=.returned (.bool (kPx x y))∧Upto [] w w'
 | 0,x,hk,_,_=>by have:=kJx x;omega
 | k+1,.mk op xs so n m ls,hk,hk7,hbg=>by
  intro y hy hbg' P P' v v' w h h'
  obtain⟨op',xs',so',n',m',ls'⟩:=y
  obtain⟨a1,c1,a2,c2,rfl,hs,hls⟩:=h.open
  obtain⟨b1,d1,b2,d2,rfl,hs',hls'⟩:=h'.open
  unfold bigN at hbg hbg'
  have hsz:kBk ls≤k:=by simp only [kCz] at hk;omega
  have hln:=kXj ls
  have hsz':kBk ls'≤10000000:=by simp only [kCz] at hy;omega
  have hln':=kXj ls'
  have hu2:Upto [] w ((w.alloc (.cells #[.int .i64 op,.slice a1 xs.length c1,.int .i64 so,.int .i64 n,.int .i64 m,.slice a2 ls.length c2] 34)).alloc (.cells #[.int .i64 op',.slice b1 xs'.length d1,.int .i64 so',.int .i64 n',.int .i64 m',.slice b2 ls'.length d2] 34)):=((Upto.refl [] w).alloc _).alloc _
  have HN:=Lib.hid (names_calls xs xs' _ _ P P' _ hbg.1 hbg'.1 (hs.ext hu2) (hs'.ext hu2))
  have HF:=Lib.hid (fun w1 (hu:Upto [] w w1)=>eqf_calls ls ls' a2 b2 c2 d2 P P' w1 (by omega) (by omega) (hls.ext hu) (hls'.ext hu) (fun x hx y hy u u' w2 hn hn'=>equal_calls k x (by have:=kSx hx;omega) (by omega) (bigs_mem hbg.2 hx) y (by have:=kSx hy;omega) (bigs_mem hbg'.2 hy) P P' u u' w2 hn hn'))
  have HU2:=Lib.hid hu2
  have hb1:=kCx (kAq w (.cells #[.int .i64 op,.slice a1 xs.length c1,.int .i64 so,.int .i64 n,.int .i64 m,.slice a2 ls.length c2] 34)) (.cells #[.int .i64 op',.slice b1 xs'.length d1,.int .i64 so',.int .i64 n',.int .i64 m',.slice b2 ls'.length d2] 34)
  have hb2:=kFz w (.cells #[.int .i64 op,.slice a1 xs.length c1,.int .i64 so,.int .i64 n,.int .i64 m,.slice a2 ls.length c2] 34) (.cells #[.int .i64 op',.slice b1 xs'.length d1,.int .i64 so',.int .i64 n',.int .i64 m',.slice b2 ls'.length d2] 34)
  have HB1:=Lib.hid hb1
  have HB2:=Lib.hid hb2
  obtain⟨x0,x1,x2,x3,x4,x5⟩:=kAx hb1
  obtain⟨y0,y1,y2,y3,y4,y5⟩:=kDk hb1
  obtain⟨z0,z1,z2,z3,z4,z5⟩:=kAx hb2
  obtain⟨t0,t1,t2,t3,t4,t5⟩:=kDk hb2
  clear hs hls hs' hls' hu2 h h' hb1 hb2 hbg hbg' hk hy hsz hsz' hln hln'
  by_cases e0:¬(op=op')
  ·have HF:Hid (kPx (.mk op xs so n m ls) (.mk op' xs' so' n' m' ls')=false):=Lib.hid (by unfold kPx;simp [e0])
   have q1:(op==op')=false:=by rw [beq_eq_false_iff_ne];exact e0
   have q2:(op != op')=true:=by rw [bne,q1];rfl
   clear e0
   go_enter Tryz.func28,Tryz.ntmps28
   go_wp2_with fail
   go_ret
   rw [HF.out]
   exact⟨rfl,HU2.out⟩
  have e0:=Decidable.not_not.1 e0
  subst e0
  have p0:(op==op)=true:=by simp
  by_cases e1:¬(so=so')
  ·have HF:Hid (kPx (.mk op xs so n m ls) (.mk op xs' so' n' m' ls')=false):=Lib.hid (by unfold kPx;simp [e1])
   have q1:(so==so')=false:=by rw [beq_eq_false_iff_ne];exact e1
   have q2:(so != so')=true:=by rw [bne,q1];rfl
   clear e1
   go_enter Tryz.func28,Tryz.ntmps28
   go_wp2_with fail
   go_ret
   rw [HF.out]
   exact⟨rfl,HU2.out⟩
  have e1:=Decidable.not_not.1 e1
  subst e1
  have p1:(so==so)=true:=by simp
  by_cases e2:¬(n=n')
  ·have HF:Hid (kPx (.mk op xs so n m ls) (.mk op xs' so n' m' ls')=false):=Lib.hid (by unfold kPx;simp [e2])
   have q1:(n==n')=false:=by rw [beq_eq_false_iff_ne];exact e2
   have q2:(n != n')=true:=by rw [bne,q1];rfl
   clear e2
   go_enter Tryz.func28,Tryz.ntmps28
   go_wp2_with fail
   go_ret
   rw [HF.out]
   exact⟨rfl,HU2.out⟩
  have e2:=Decidable.not_not.1 e2
  subst e2
  have p2:(n==n)=true:=by simp
  by_cases e3:¬(m=m')
  ·have HF:Hid (kPx (.mk op xs so n m ls) (.mk op xs' so n m' ls')=false):=Lib.hid (by unfold kPx;simp [e3])
   have q1:(m==m')=false:=by rw [beq_eq_false_iff_ne];exact e3
   have q2:(m != m')=true:=by rw [bne,q1];rfl
   clear e3
   go_enter Tryz.func28,Tryz.ntmps28
   go_wp2_with fail
   go_ret
   rw [HF.out]
   exact⟨rfl,HU2.out⟩
  have e3:=Decidable.not_not.1 e3
  subst e3
  have p3:(m==m)=true:=by simp
  by_cases e4:¬(xs=xs')
  ·have HR:Hid (kPx (.mk op xs so n m ls) (.mk op xs' so n m ls')=false):=Lib.hid (by unfold kPx;simp [e4])
   have hd:decide (xs=xs')=false:=by simpa using e4
   rw [hd] at HN
   clear e4 hd
   go_enter Tryz.func28,Tryz.ntmps28
   go_wp2_with fail
   refine HN.out.mono ?_
   rintro e w2 ⟨rfl,hu2⟩
   have HU3:=Lib.hid (HU2.out.trans_ext hu2)
   clear hu2
   go_wp2_with fail
   go_ret
   rw [HR.out]
   exact⟨rfl,HU3.out⟩
  have e4:=Decidable.not_not.1 e4
  subst e4
  have hd:decide (xs=xs)=true:=by simp
  have HR:Hid (kPx (.mk op xs so n m ls) (.mk op xs so n m ls')=samesF ls ls'):=Lib.hid (by unfold kPx;simp)
  rw [hd] at HN
  clear hd
  rw [HR.out]
  generalize samesF ls ls'=R at *
  go_enter Tryz.func28,Tryz.ntmps28
  go_wp2_with fail
  refine HN.out.mono ?_
  rintro e w2 ⟨rfl,hu2⟩
  have hb1:=hu2.at HB1.out (by simp)
  have hb2:=hu2.at HB2.out (by simp)
  obtain⟨u0,u1,u2,u3,u4,u5⟩:=kAx hb1
  obtain⟨uf0,uf1,uf2,uf3,uf4,uf5⟩:=kDk hb1
  obtain⟨r0,r1,r2,r3,r4,r5⟩:=kAx hb2
  obtain⟨rf0,rf1,rf2,rf3,rf4,rf5⟩:=kDk hb2
  have HC:=Lib.hid (HF.out w2 (HU2.out.trans_ext hu2))
  have HU3:=Lib.hid (HU2.out.trans_ext hu2)
  clear hu2 hb1 hb2
  go_wp2_with fail
  refine HC.out.mono ?_
  rintro e w3 ⟨rfl,hu3⟩
  have HU4:=Lib.hid (HU3.out.trans_ext hu3)
  clear hu3
  go_wp2_with fail
  go_ret
  exact⟨rfl,HU4.out⟩
def kYx (q q':Qn):Bool:=decide (q.free=q'.free)&&kPx q.body q'.body
theorem alikeF_eq (q q':Qn):kYx q q'=true↔q=q':=by
 unfold kYx
 rw [Bool.and_eq_true,decide_eq_true_eq,sameF_eq]
 cases q;cases q'
 simp
theorem equalq_calls (q q':Qn) (P P':Nat→Prop) (v v':Value) (w:World) (hf:q.free.length≤10000000) (hs:kCz q.body≤10000000) (hb:bigN q.body) (hf':q'.free.length≤10000000) (hs':kCz q'.body≤10000000) (hb':bigN q'.body) (h:QnV w P q v) (h':QnV w P' q' v') :
  Calls Tryz.prog 26 #[v,v'] w fun e w'=>e=.returned (.bool (kYx q q'))∧Upto [] w w':=by
 obtain⟨f1,f3,o1,a1,a2,a3,s1,n1,m1,l1,l2,l3,rfl,hv,hn⟩:=h.open
 obtain⟨g1,g3,o2,b1,b2,b3,s2,n2,m2,k1,k2,k3,rfl,hv',hn'⟩:=h'.open
 have hu2:Upto [] w ((w.alloc (.cells #[.slice f1 q.free.length f3,.int .i64 o1,.slice a1 a2 a3,.int .i64 s1,.int .i64 n1,.int .i64 m1,.slice l1 l2 l3] 48)).alloc (.cells #[.slice g1 q'.free.length g3,.int .i64 o2,.slice b1 b2 b3,.int .i64 s2,.int .i64 n2,.int .i64 m2,.slice k1 k2 k3] 48)):=((Upto.refl [] w).alloc _).alloc _
 have HN:=Lib.hid (vars_calls q.free q'.free _ _ P P' _ hf hf' (SlP.ext hv hu2) (SlP.ext hv' hu2))
 have HF:=Lib.hid (fun w1 (hu:Upto [] w w1)=>equal_calls _ q.body (Nat.le_refl _) hs hb q'.body hs' hb' P P' _ _ w1 (hn.ext hu) (hn'.ext hu))
 have HU2:=Lib.hid hu2
 have hb1:=kCx (kAq w (.cells #[.slice f1 q.free.length f3,.int .i64 o1,.slice a1 a2 a3,.int .i64 s1,.int .i64 n1,.int .i64 m1,.slice l1 l2 l3] 48)) (.cells #[.slice g1 q'.free.length g3,.int .i64 o2,.slice b1 b2 b3,.int .i64 s2,.int .i64 n2,.int .i64 m2,.slice k1 k2 k3] 48)
 have hb2:=kFz w (.cells #[.slice f1 q.free.length f3,.int .i64 o1,.slice a1 a2 a3,.int .i64 s1,.int .i64 n1,.int .i64 m1,.slice l1 l2 l3] 48) (.cells #[.slice g1 q'.free.length g3,.int .i64 o2,.slice b1 b2 b3,.int .i64 s2,.int .i64 n2,.int .i64 m2,.slice k1 k2 k3] 48)
 have HB1:=Lib.hid hb1
 have HB2:=Lib.hid hb2
 obtain⟨xa0,xa1,xa2,xa3,xa4,xa5,xa6⟩:=kBw hb1
 obtain⟨ya0,ya1,ya2,ya3,ya4,ya5,ya6⟩:=kRk hb1
 obtain⟨xb0,xb1,xb2,xb3,xb4,xb5,xb6⟩:=kBw hb2
 obtain⟨yb0,yb1,yb2,yb3,yb4,yb5,yb6⟩:=kRk hb2
 clear hv hn hv' hn' hu2 h h' hb1 hb2 hb hf hs hb' hf' hs'
 by_cases e4:¬(q.free=q'.free)
 ·have HR:Hid (kYx q q'=false):=Lib.hid (by unfold kYx;simp [e4])
  have hd:decide (q.free=q'.free)=false:=by simpa using e4
  rw [hd] at HN
  rw [HR.out]
  clear e4 hd
  go_enter Tryz.func26,Tryz.ntmps26
  go_wp2_with fail
  refine HN.out.mono ?_
  rintro e w2 ⟨rfl,hu2⟩
  have HU3:=Lib.hid (HU2.out.trans_ext hu2)
  clear hu2
  go_wp2_with fail
  go_ret
  exact⟨rfl,HU3.out⟩
 have e4:=Decidable.not_not.1 e4
 have hd:decide (q.free=q'.free)=true:=by simpa using e4
 have HR:Hid (kYx q q'=kPx q.body q'.body):=Lib.hid (by unfold kYx;rw [hd];rfl)
 rw [hd] at HN
 rw [HR.out]
 clear hd HR e4
 generalize kPx q.body q'.body=R at *
 go_enter Tryz.func26,Tryz.ntmps26
 go_wp2_with fail
 refine HN.out.mono ?_
 rintro e w2 ⟨rfl,hu2⟩
 have hb1:=hu2.at HB1.out (by simp)
 have hb2:=hu2.at HB2.out (by simp)
 obtain⟨pa0,pa1,pa2,pa3,pa4,pa5,pa6⟩:=kBw hb1
 obtain⟨qa0,qa1,qa2,qa3,qa4,qa5,qa6⟩:=kRk hb1
 obtain⟨pb0,pb1,pb2,pb3,pb4,pb5,pb6⟩:=kBw hb2
 obtain⟨qb0,qb1,qb2,qb3,qb4,qb5,qb6⟩:=kRk hb2
 have HC:=Lib.hid (HF.out w2 (HU2.out.trans_ext hu2))
 have HU3:=Lib.hid (HU2.out.trans_ext hu2)
 clear hu2 hb1 hb2
 go_wp2_with fail
 refine HC.out.mono ?_
 rintro e w3 ⟨rfl,hu3⟩
 have HU4:=Lib.hid (HU3.out.trans_ext hu3)
 clear hu3
 go_wp2_with fail
 go_ret
 exact⟨rfl,HU4.out⟩
def ofTok (t:PL.Tok):ITok:=⟨t.kind,t.text,t.val,t.line,t.col⟩
theorem Toks.I {w:World} {v:Value} {ts:List PL.Tok} (h:Toks w v ts):IToks w v (ts.map ofTok):=by
 unfold IToks
 rw [List.length_map,List.flatMap_map]
 exact h
def joinF:List ITok→Option (List (List UInt8))
 | []=>some []
 | t::ts=>if ts=[]∧eofI t then some [] else if goodI t then (joinF ts).map fun l=>t.text::l else none
theorem joinF_eof {t:ITok} (h:eofI t):joinF [t]=some []:=by simp [joinF,h]
theorem joinF_good {t:ITok} {ts:List ITok} (h1:¬(ts=[]∧eofI t)) (h:goodI t):joinF (t::ts)=(joinF ts).map fun l=>t.text::l:=by rw [joinF,if_neg h1,if_pos h]
theorem joinF_bad {t:ITok} {ts:List ITok} (h1:¬(ts=[]∧eofI t)) (h:¬goodI t):joinF (t::ts)=none:=by rw [joinF,if_neg h1,if_neg h]
def JoinR (ts:List ITok) (e:Ending):Prop:=(∃l,joinF ts=some l∧e=.returned (.tuple #[.string ⟨(Lib.join l [32]).toArray⟩,.int .i64 0]))∨(joinF ts=none∧e=.returned (.tuple #[.string ⟨#[]⟩,.int .i64 3]))
theorem infoJ9:(Tryz.prog.info? 9).map (fun i=>(i.zero,i.size,i.bytes))=some (some (.string ⟨#[]⟩),1,16):=by kernel_rfl
theorem joinTail_len (l:List (List UInt8)) (m:Nat) (h:∀x∈l,x.length≤m):(Lib.joinTail [32] l).length≤l.length*(m+1):=by
 induction l with
 | nil=>simp [Lib.joinTail]
 | cons a l ih =>
  have h1:=h a (by simp)
  have h2:=ih (fun x hx=>h x (by simp [hx]))
  have e:Lib.joinTail [32] (a::l)=32::(a++Lib.joinTail [32] l):=by simp [Lib.joinTail]
  rw [e,List.length_cons,List.length_append,List.length_cons,Nat.add_mul]
  omega
theorem join_len (l:List (List UInt8)) (m:Nat) (h:∀x∈l,x.length≤m):(Lib.join l [32]).length≤l.length*(m+1):=by
 cases l with
 | nil=>simp [Lib.join_nil]
 | cons a l =>
  have h1:=h a (by simp)
  have h2:=joinTail_len l m (fun x hx=>h x (by simp [hx]))
  rw [Lib.join_cons,List.length_append,List.length_cons,Nat.add_mul]
  omega
theorem joined_calls {w wr:World} {ls:List (List UInt8)} {l:Value} (h:JnI w ls l wr) (hm:∀x∈ls,x.length≤100000) (hn:ls.length≤100000):Calls Tryz.prog 82 #[l,.string ⟨#[32]⟩] wr fun e w'=>e=.returned (.string ⟨(Lib.join ls [32]).toArray⟩)∧Upto [] wr w':=by
 have hj:=join_len ls 100000 hm
 have hj2:(Lib.join ls [32]).length≤140737488355328:=by
  have:ls.length*(100000+1)≤100000*100001:=Nat.mul_le_mul_right _ hn
  omega
 obtain⟨xs,hxs⟩:∃xs:List ByteArray,xs=ls.map fun l=>(⟨l.toArray⟩:ByteArray):=⟨_,rfl⟩
 have hxl:xs.length=ls.length:=by rw [hxs,List.length_map]
 have hxj:xs.map (fun x=>x.data.toList)=ls:=by rw [hxs,List.map_map];simp [Function.comp_def]
 have hxc:∀(j:Nat) x,xs[j]?=some x→(ls.map sb)[j]?=some (.string x):=by
  intro j x hj
  rw [hxs,List.getElem?_map] at hj
  obtain⟨y,hy,rfl⟩:=Option.map_eq_some_iff.1 hj
  rw [List.getElem?_map,hy]
  rfl
 rcases h.row.2 with⟨h1,h2⟩ | ⟨g,cap,cur,he,_,hh,hcap,_,hcs,ht⟩
 ·have h0:ls=[]:=by simpa using h2
  subst h0
  rw [h1]
  exact (Tryz.strings_Join_none none 0 ⟨#[32]⟩ wr).mono fun e w' ⟨h3,h4⟩=>⟨h3,by rw [h4];exact Upto.refl _ _⟩
 ·rw [he,←hxl]
  by_cases h0:xs.length=0
  ·have h00:ls=[]:=List.eq_nil_of_length_eq_zero (by omega)
   rw [h0,h00]
   exact (Tryz.strings_Join_none _ _ ⟨#[32]⟩ wr).mono fun e w' ⟨h3,h4⟩=>⟨h3,by rw [h4];exact Upto.refl _ _⟩
  ·have key:=Tryz.strings_Join g 0 cap xs ⟨#[32]⟩ wr (fun j x hj=>by
    rw [Nat.zero_add,kAz hh]
    have h5:=hxc j x hj
    rw [←ht,List.getElem?_take] at h5
    split at h5
    ·simpa using h5
    ·cases h5) (kAk hh) (by omega) (by omega) (by rw [hxj];exact hj2)
   rw [hxj] at key
   exact key.mono fun e w' ⟨h3,h4⟩=>⟨h3,ext_of h4⟩
end Go.Proofs.YtkhbpebpljdifaaGreatDoor
namespace Go.Proofs.YtkhbpebpljdifaaGreatDoor
open Go.PL
theorem lp_kind {t:PL.Tok} (h:RealT t) (hk:t.kind≠4):lp t=0:=by
 unfold lp
 by_cases ht:t.text=[40]
 ·exfalso
  rcases h with⟨b,-,-,h4,-⟩ | ⟨-,h2,-⟩
  ·exact hk h4
  ·have:=h2 40 (by rw [ht];simp)
   revert this
   decide
 ·rw [if_neg ht]
theorem lps_arg:∀(ys:List (List UInt8)),(∀y∈ys,Real 1 y 0)→lps (argT ys)=0
 | [],_=>rfl
 | [x],h=>by simp [argT,kOk,lps_nil,lp_kind (kVk (h x (by simp))) (by show (1:Nat)≠4;decide)]
 | x::y::r,h=>by
  have h1:=lps_arg (y::r) (fun z hz=>h z (List.mem_cons_of_mem _ hz))
  have h2:lp (idT x)=0:=lp_kind (kVk (h x (by simp))) (by show (1:Nat)≠4;decide)
  have h3:lp (puT 44)=0:=rfl
  simp only [argT,kOk,h1,h2,h3]
theorem lps_par (b:Bool) (t u:List PL.Tok):lps (parT b t u)=parL b (lps t) (lps u):=by
 have h1:lp (puT 40)=1:=rfl
 have h2:lp (puT 41)=0:=rfl
 cases b<;>simp [parT,parL,kOk,lps_app,lps_nil,h1,h2]
theorem lps_pr:∀(k:Nat) (nd:Nd),kCz nd≤k→okF nd→∀last,lps (prT last nd)=pcF last nd
 | 0,nd,hn,_,_=>by have:=kRw nd;omega
 | k+1,.mk op names so n m ls,hn,hok,last=>by
  have hreal:op<11→AllT (kIk op names n m):=fun hop=>by
   have:=allT_pr _ _ (Nat.le_refl _) hok last
   unfold prT at this
   rwa [if_pos hop] at this
  unfold okF at hok
  obtain⟨hnm,hc,hs⟩:=hok
  unfold prT pcF
  unfold kCz at hn
  have hget:∀(b:Bool) (l:List Nd) (i:Nat),(∀x∈l,x∈ls)→lps ((prsT b l).getD i [])=(pcsF b l).getD i 0:=by
   intro b l
   induction l with
   | nil=>intro i _;simp [prsT,pcsF,lps_nil]
   | cons a l ih =>
    intro i h
    cases i with
    | zero =>
     have ha:=oks_mem (h a (by simp))
     simpa [prsT,pcsF] using lps_pr k a (by omega) (ha.2 hs) b
    | succ i=>simpa [prsT,pcsF] using ih i (fun x hx=>h x (by simp [hx]))
  have hg:=fun b i=>hget b ls i (fun x hx=>hx)
  by_cases h11:op<11
  ·rw [if_pos h11,if_pos h11]
   have hr:=hreal h11
   have key:∀(L:List PL.Tok),AllT L→(∀t∈L,t.kind≠4∨t=puT 61)→lps L=0:=by
    intro L
    induction L with
    | nil=>intro _ _;rfl
    | cons t L ih =>
     intro h1 h2
     rw [kOk,ih (fun t ht=>h1 t (by simp [ht])) (fun t ht=>h2 t (by simp [ht]))]
     rcases h2 t (by simp) with h | h
     ·rw [lp_kind (h1 t (by simp)) h]
     ·rw [h];rfl
   by_cases h10:op=10
   ·subst h10
    have h3:1≤names.length:=by
     rcases hc with h | h | h | h | h | h | h | h | h
     ·omega
     ·omega
     ·omega
     ·omega
     ·omega
     ·exact h.2.1
     ·omega
     ·omega
     ·omega
    match names,h3 with
    | f::ys,_ =>
     have a5:lp (idT f)=0:=lp_kind (kVk (hnm f (by simp))) (by show (1:Nat)≠4;decide)
     have a6:lp (puT 40)=1:=rfl
     have a7:lp (puT 41)=0:=rfl
     unfold kIk
     rw [if_neg (by decide),if_neg (by decide),if_neg (by decide),if_neg (by decide),if_neg (by decide),if_neg (by decide)]
     simp only [List.getD_cons_zero,List.tail_cons,kOk,lps_app,lps_nil,lps_arg ys (fun y hy=>hnm y (by simp [hy])),a5,a6,a7]
     simp
   ·rw [if_neg h10]
    refine key _ hr ?_
    have hops:op=0∨op=1∨(2≤op∧op<7)∨op=7∨op=8∨op=9:=by
     rcases hc with h | h | h | h | h | h | h | h | h
     ·omega
     ·omega
     ·omega
     ·omega
     ·omega
     ·omega
     ·omega
     ·omega
     ·omega
    have hrel:∀i,(relT i).kind≠4∨relT i=puT 61:=by
     intro i
     match i with
     | 0=>exact Or.inr rfl
     | 1=>exact Or.inl (by decide)
     | 2=>exact Or.inl (by decide)
     | 3=>exact Or.inl (by decide)
     | i+4=>exact Or.inl (show (kyT [111,110]).kind≠4 by decide)
    have hi:∀x,(idT x).kind≠4:=fun x=>by show (1:Nat)≠4;decide
    have hk:∀x,(kyT x).kind≠4:=fun x=>by show (3:Nat)≠4;decide
    have hn:∀x,(nmT x).kind≠4:=fun x=>by show (2:Nat)≠4;decide
    unfold kIk
    intro t ht
    rcases hops with rfl | rfl | h | rfl | rfl | rfl
    ·rw [if_pos rfl] at ht
     simp only [List.mem_cons,List.not_mem_nil,or_false] at ht
     rw [ht];exact Or.inl (hk _)
    ·rw [if_neg (by decide),if_pos rfl] at ht
     simp only [List.mem_cons,List.not_mem_nil,or_false] at ht
     rw [ht];exact Or.inl (hk _)
    ·rw [if_neg (by omega),if_neg (by omega),if_pos h.2] at ht
     simp only [List.mem_cons,List.not_mem_nil,or_false] at ht
     rcases ht with rfl | rfl | rfl
     ·exact Or.inl (hi _)
     ·exact hrel _
     ·exact Or.inl (hi _)
    ·rw [if_neg (by decide),if_neg (by decide),if_neg (by decide),if_pos rfl] at ht
     simp only [List.mem_cons,List.not_mem_nil,or_false] at ht
     rcases ht with rfl | rfl | rfl
     ·exact Or.inl (hi _)
     ·exact Or.inl (hk _)
     ·exact Or.inl (hn _)
    ·rw [if_neg (by decide),if_neg (by decide),if_neg (by decide),if_neg (by decide),if_pos rfl] at ht
     simp only [List.mem_cons,List.not_mem_nil,or_false] at ht
     rcases ht with rfl | rfl | rfl | rfl | rfl | rfl
     ·exact Or.inl (hk _)
     ·exact Or.inl (hi _)
     ·exact Or.inl (hk _)
     ·exact Or.inl (hn _)
     ·exact Or.inl (hk _)
     ·exact Or.inl (hn _)
    ·rw [if_neg (by decide),if_neg (by decide),if_neg (by decide),if_neg (by decide),if_neg (by decide),if_pos rfl] at ht
     simp only [List.mem_cons,List.not_mem_nil,or_false] at ht
     rcases ht with rfl | rfl
     ·exact Or.inl (hk _)
     ·exact Or.inl (hi _)
  rw [if_neg h11,if_neg h11]
  by_cases h12:op=11
  ·rw [if_pos h12,if_pos h12,kOk,lps_par,hg,hg]
   have:lp (kyT [110,111,116])=0:=rfl
   omega
  rw [if_neg h12,if_neg h12]
  by_cases h16:op<16
  ·rw [if_pos h16,if_pos h16,lps_app,kOk,lps_par,lps_par,hg,hg,hg,hg]
   have:lp (kyT (conW op))=0:=lp_kind (real_con _) (by show (3:Nat)≠4;decide)
   omega
  ·rw [if_neg h16,if_neg h16]
   have hq:names.length=1∧0≤so∧so<4:=by
    rcases hc with h | h | h | h | h | h | h | h | h
    ·omega
    ·omega
    ·omega
    ·omega
    ·omega
    ·omega
    ·omega
    ·omega
    ·exact⟨h.2.2.1,h.2.2.2.2.1,h.2.2.2.2.2.1⟩
   match names,hq with
   | [x],hq =>
    have a1:lp (kyT (quW op))=0:=lp_kind (real_qu _) (by show (3:Nat)≠4;decide)
    have a2:lp (kyT (kDj.getD so.toNat []))=0:=lp_kind (real_sort (by omega)) (by show (3:Nat)≠4;decide)
    have a3:lp (idT x)=0:=lp_kind (kVk (hnm x (by simp))) (by show (1:Nat)≠4;decide)
    have a4:lp (puT 58)=0:=rfl
    simp only [List.getD_cons_zero,kOk,a1,a2,a3,a4,hg]
    omega
theorem lps_free {f:List (List UInt8×Int)} (hv:okV f):lps ((freeB f).map Prod.snd)=0:=by
 have var:∀(f:List (List UInt8×Int)),(∀v∈f,Real 1 v.1 0∧0≤v.2∧v.2<4)→lps ((varB f).map Prod.snd)=0:=by
  intro f
  induction f with
  | nil=>intro _;rfl
  | cons v r ih =>
   intro h
   have h1:=h v (by simp)
   have a2:lp (kyT (kDj.getD v.2.toNat []))=0:=lp_kind (real_sort (by omega)) (by show (3:Nat)≠4;decide)
   have a3:lp (idT v.1)=0:=lp_kind (kVk h1.1) (by show (1:Nat)≠4;decide)
   have a4:lp (puT 44)=0:=rfl
   have hr:=ih (fun u hu=>h u (by simp [hu]))
   cases r with
   | nil=>simp only [varB,List.map_cons,List.map_nil,kOk,lps_nil,a2,a3]
   | cons u r=>simp only [varB,List.map_cons,kOk,a2,a3,a4] at hr ⊢;omega
 cases f with
 | nil=>rfl
 | cons v r =>
  have:=var (v::r) hv.2.1
  have a1:lp (kyT [102,105,110,100])=0:=rfl
  have a4:lp (puT 58)=0:=rfl
  simp only [freeB,List.map_cons,List.map_append,List.map_nil,kOk,lps_app,lps_nil,a1,a4,this]
theorem lps_quest {q:Qn} (hv:okV q.free) (hb:okF q.body):lps (prQ q)=pcF true q.body:=by
 unfold prQ
 rw [lps_app,lps_free hv,lps_pr _ _ (Nat.le_refl _) hb]
 omega
end Go.Proofs.YtkhbpebpljdifaaGreatDoor
namespace Go.Proofs.YtkhbpebpljdifaaGreatDoor
open Go.RowKit Go.PL Go.Maps
theorem drop_split {α:Type} {l:List α} {i:Nat} {t:α} (h:l[i]?=some t):l.drop i=t::l.drop (i+1)∧l.take (i+1)=l.take i++[t]:=by
 obtain⟨h1,h2⟩:=List.getElem?_eq_some_iff.1 h
 exact⟨by rw [List.drop_eq_getElem_cons h1,h2],by rw [List.take_succ_eq_append_getElem h1,h2]⟩
theorem join_calls (ts:List ITok) (v:Value) (w:World) (hT:IToks w v ts) (he:Env w) (hn:ts.length≤100000) (hm:∀t∈ts,t.text.length≤100000):Calls Tryz.prog 49 #[v] w fun e w'=>JoinR ts e∧Upto [] w w':=by
 obtain⟨i0,hi0,hz0,hz1,hz2⟩:=info_parts infoJ9
 have HI:=Lib.hid hi0
 have HZ0:=Lib.hid hz0
 have HZ1:=Lib.hid hz1
 have HZ2:=Lib.hid hz2
 clear hi0 hz0 hz1 hz2
 obtain⟨pa,pc,rfl⟩:=hT.len
 have HAT:=Lib.hid hT.at
 have h0:=Lib.hid he
 have HMT:=Lib.hid hm
 have HO:=Lib.hid lexone_calls
 clear hT he hm
 have hM:JnI w [] (.slice none 0 0) w:=⟨⟨rfl,Or.inl ⟨rfl,rfl⟩⟩,fun g hg=>(by cases hg),Upto.refl _ _⟩
 generalize hnn:ts.length=n at *
 have hn1:(n:Int)≤100000:=by omega
 go_enter Tryz.func49,Tryz.ntmps49
 go_wp2_with fail
 go_loopw [4,11] (fun l i wr=>∃k:Nat,k≤n∧i=.int .i64 k∧JnI w ((ts.take k).map ITok.text) l wr∧Hid (joinF ts=(joinF (ts.drop k)).map fun l=>(ts.take k).map ITok.text++l)) (fun _ i _=>n-(intOf i).toNat)
 case atStart=>exact⟨0,by omega,rfl,hM,Lib.hid (by cases h:joinF ts<;>simp [h])⟩
 case round =>
  obtain⟨k,hk,rfl,hM',HJ⟩:=hrel
  clear hM
  have hlt0:((ts.take k).map ITok.text).length=k:=by rw [List.length_map,List.length_take];omega
  obtain⟨va,vc,hve,-⟩:=kJj hM'.row
  rw [hlt0] at hve
  subst hve
  have hk0:(0:Int)≤k:=by omega
  have HIN:=Lib.hid (show ∀x∈(ts.take k).map ITok.text,x.length≤100000 from fun x hx=>by
   obtain⟨t,ht,rfl⟩:=List.mem_map.1 hx
   exact HMT.out t (List.mem_of_mem_take ht))
  rcases Nat.lt_or_ge k n with hlt | hge
  ·obtain⟨t,ht⟩:∃t,ts[k]?=some t:=⟨ts[k],List.getElem?_eq_getElem (by omega)⟩
   obtain⟨hd1,hd2⟩:=drop_split ht
   rcases HAT.out with⟨h1,_⟩ | ⟨g,o,c,hs,hat⟩
   ·rw [h1] at hnn;simp at hnn;omega
   simp only [Value.slice.injEq] at hs
   obtain⟨rfl,-,rfl⟩:=hs
   obtain⟨c0,c1,c2,c3,c4⟩:=hat.ext hM'.up _ _ ht
   have htl:=HMT.out t (List.mem_of_getElem? ht)
   have HD1:=Lib.hid hd1
   have HD2:=Lib.hid hd2
   have hlast:ts.drop (k+1)=[]↔k+1=n:=by
    rw [List.drop_eq_nil_iff,hnn]
    omega
   have HLAST:=Lib.hid hlast
   have hlt':(k:Int)<n:=by omega
   have HM:=Lib.hid hM'
   have HL0:=Lib.hid hlt0
   clear ht hd1 hd2 hlast hat hM'
   by_cases heof:eofI t∧k+1=n
   ·obtain⟨⟨e1,e2,e3⟩,e4⟩:=heof
    have HEND:Hid (joinF ts=some ((ts.map ITok.text).take k)):=Lib.hid (by
     have hz:ts.drop (k+1)=[]:=HLAST.out.2 e4
     rw [HJ.out,HD1.out,hz,joinF_eof ⟨e1,e2,e3⟩]
     simp)
    have t1:(t.kind==0)=true:=by simp [e1]
    have t2:(t.text==([]:List UInt8))=true:=by simp [e2]
    have t3:(t.val==0)=true:=by simp [e3]
    have t4:((k:Int)==n-1)=true:=by rw [beq_iff_eq];omega
    have hjc:=joined_calls (HM.out.ext ((Upto.refl [] wr).alloc (.cells #[.int .i64 t.kind,.string ⟨t.text.toArray⟩,.int .i64 t.val,.int .i64 t.line,.int .i64 t.col] 83))) HIN.out (by rw [HL0.out];omega)
    have HJC:=Lib.hid hjc
    have hua:=HM.out.up.alloc (.cells #[.int .i64 t.kind,.string ⟨t.text.toArray⟩,.int .i64 t.val,.int .i64 t.line,.int .i64 t.col] 83)
    clear hjc e1 e2 e3 e4
    go_wp2_with fail
    refine HJC.out.mono ?_
    rintro e w2 ⟨rfl,hu2⟩
    go_wp2_with fail
    go_ret2
    exact⟨Or.inl ⟨_,HEND.out,by first | rfl | rw [List.map_take] | simp⟩,hua.trans_ext hu2⟩
   ·have hno:¬(ts.drop (k+1)=[]∧eofI t):=fun h=>heof ⟨h.2,HLAST.out.1 h.1⟩
    have HNO:=Lib.hid hno
    have hcase:(t.kind≠0)∨(t.kind=0∧t.text≠[])∨(t.kind=0∧t.text=[]∧t.val≠0)∨(t.kind=0∧t.text=[]∧t.val=0∧k+1≠n):=by
     by_cases h1:t.kind=0
     ·by_cases h2:t.text=[]
      ·by_cases h3:t.val=0
       ·exact Or.inr (Or.inr (Or.inr ⟨h1,h2,h3,fun h4=>heof ⟨⟨h1,h2,h3⟩,h4⟩⟩))
       ·exact Or.inr (Or.inr (Or.inl ⟨h1,h2,h3⟩))
      ·exact Or.inr (Or.inl ⟨h1,h2⟩)
     ·exact Or.inl h1
    have HONE:=Lib.hid (HO.out t.text (wr.alloc (.cells #[.int .i64 t.kind,.string ⟨t.text.toArray⟩,.int .i64 t.val,.int .i64 t.line,.int .i64 t.col] 83)) (h0.out.ext (HM.out.up.alloc (.cells #[.int .i64 t.kind,.string ⟨t.text.toArray⟩,.int .i64 t.val,.int .i64 t.line,.int .i64 t.col] 83))) (by omega))
    have hcx:=kAq wr (.cells #[.int .i64 t.kind,.string ⟨t.text.toArray⟩,.int .i64 t.val,.int .i64 t.line,.int .i64 t.col] 83)
    clear heof hno
    have hbool:((t.kind==0)=false)∨((t.kind==0)=true∧(t.text==([]:List UInt8))=false)∨((t.kind==0)=true∧(t.text==([]:List UInt8))=true∧(t.val==0)=false)∨((t.kind==0)=true∧(t.text==([]:List UInt8))=true∧(t.val==0)=true∧((k:Int)==n-1)=false):=by
     rcases hcase with h | ⟨h1,h2⟩ | ⟨h1,h2,h3⟩ | ⟨h1,h2,h3,h4⟩
     ·exact Or.inl (by simpa using h)
     ·exact Or.inr (Or.inl ⟨by simp [h1],by simpa using h2⟩)
     ·exact Or.inr (Or.inr (Or.inl ⟨by simp [h1],by simp [h2],by simpa using h3⟩))
     ·exact Or.inr (Or.inr (Or.inr ⟨by simp [h1],by simp [h2],by simp [h3],by rw [beq_eq_false_iff_ne];omega⟩))
    clear hcase
    rcases hbool with t1 | ⟨t1,t2⟩ | ⟨t1,t2,t3⟩ | ⟨t1,t2,t3,t4⟩
    all_goals
     go_wp2_with fail
     refine HONE.out.mono ?_
     rintro e w2 ⟨hr,hu2⟩
     clear HONE c0 c1 c2 c3 c4
     have hx2:=hu2.at hcx (by simp)
     have hup2:=(HM.out.up.alloc (.cells #[.int .i64 t.kind,.string ⟨t.text.toArray⟩,.int .i64 t.val,.int .i64 t.line,.int .i64 t.col] 83)).trans_ext hu2
     have hM2:=(HM.out.ext ((Upto.refl [] wr).alloc (.cells #[.int .i64 t.kind,.string ⟨t.text.toArray⟩,.int .i64 t.val,.int .i64 t.line,.int .i64 t.col] 83))).ext hu2
     have hbw:=kAk hx2
     generalize hB:wr.heap.size=B at *
     try clear t1
     try clear t2
     try clear t3
     try clear t4
     rcases hr with⟨k2,v2,l2,cc2,hone,rfl⟩ | ⟨hone,rfl⟩
     ·have hx3:=(hu2.alloc (.cells #[.int .i64 k2,.string ⟨t.text.toArray⟩,.int .i64 v2,.int .i64 l2,.int .i64 cc2] 83)).at hcx (by simp)
      obtain⟨n0,n1,n2,n3,n4⟩:=tok_cells w2 (.int .i64 k2) (.string ⟨t.text.toArray⟩) (.int .i64 v2) (.int .i64 l2) (.int .i64 cc2) 36
      obtain⟨q0,q1,q2⟩:=cells3 hx3
      have hup3:=hup2.alloc (.cells #[.int .i64 k2,.string ⟨t.text.toArray⟩,.int .i64 v2,.int .i64 l2,.int .i64 cc2] 83)
      have hM3:=hM2.ext ((Upto.refl [] w2).alloc (.cells #[.int .i64 k2,.string ⟨t.text.toArray⟩,.int .i64 v2,.int .i64 l2,.int .i64 cc2] 83))
      clear hx2 hx3 hM2 hup2 hu2 hcx
      by_cases hg:t.kind=k2∧t.val=v2
      ·have hgood:goodI t:=⟨k2,v2,hone,hg.1,hg.2⟩
       have HGG:Hid (joinF ts=(joinF (ts.drop (k+1))).map fun l=>(ts.take (k+1)).map ITok.text++l):=Lib.hid (by
        rw [HJ.out,HD1.out,joinF_good HNO.out hgood,HD2.out]
        cases joinF (ts.drop (k+1))<;>simp)
       obtain⟨hg1,hg2⟩:=hg
       have HM4:=Lib.hid hM3
       have hrow:=(hM3.ext ((Upto.refl [] _).alloc (.cells #[.string ⟨t.text.toArray⟩] 9))).row
       have hsrc:=kQk (l:=[sb t.text]) (kFz w2 (.cells #[.int .i64 k2,.string ⟨t.text.toArray⟩,.int .i64 v2,.int .i64 l2,.int .i64 cc2] 83) (.cells #[.string ⟨t.text.toArray⟩] 9))
       rw [HL0.out] at hrow
       clear hgood hone hM3 HNO HD1
       generalize t.kind=tk at *
       generalize t.val=tv at *
       subst hg1 hg2
       go_wp2_with (at_builtin;refine kHk _ rfl (.tmp 58) (.tmp 61) 22 rfl 9 i0 (.string ⟨#[]⟩) 1 16 Tryz.underlying22 HI.out HZ0.out HZ1.out HZ2.out rfl (by decide) (.slice va k vc) k _ rfl hrow ⟨w2.heap.size+1,0,none⟩ 1 1 [sb t.text] rfl rfl hsrc (by simp [Value.oneCell',sb]) (by unfold maxLen;omega) (by omega) ?_;intro vb vd w4 ho4 hu4 hw4;have HM5:=Lib.hid (HM4.out.app' HL0.out ho4 hu4 hw4);clear hrow hsrc ho4 hu4 hw4)
       go_roundw
       case rel=>exact⟨k+1,by omega,by go_num,by rw [HD2.out,List.map_append];exact HM5.out,HGG⟩
       case measure=>simp [intOf];omega
      ·have hbad:¬goodI t:=by
        rintro⟨k',v',h1,h2,h3⟩
        rw [hone] at h1
        cases h1
        exact hg ⟨h2,h3⟩
       have HBB:Hid (joinF ts=none):=Lib.hid (by rw [HJ.out,HD1.out,joinF_bad HNO.out hbad];rfl)
       clear hbad hone
       clear HNO HD1 hM3
       generalize t.kind=tk at *
       generalize t.val=tv at *
       by_cases h1:tk=k2
       ·subst h1
        have g2:((v2:Int)==tv)=false:=by rw [beq_eq_false_iff_ne];exact fun h=>hg ⟨rfl,h.symm⟩
        have g3:((v2:Int) != tv)=true:=by rw [bne,g2];rfl
        clear hg
        go_wp2_with fail
        go_ret2
        exact⟨Or.inr ⟨HBB.out,rfl⟩,hup3⟩
       ·have g2:((k2:Int)==tk)=false:=by rw [beq_eq_false_iff_ne];exact fun h=>h1 h.symm
        have g3:((k2:Int) != tk)=true:=by rw [bne,g2];rfl
        clear hg h1
        go_wp2_with fail
        go_ret2
        exact⟨Or.inr ⟨HBB.out,rfl⟩,hup3⟩
     ·have hbad:¬goodI t:=by
       rintro⟨k',v',h1,h2,h3⟩
       rw [hone] at h1
       cases h1
      have HBB:Hid (joinF ts=none):=Lib.hid (by rw [HJ.out,HD1.out,joinF_bad HNO.out hbad];rfl)
      have hup3:=hup2.alloc (.cells #[.int .i64 0,.string ⟨#[]⟩,.int .i64 0,.int .i64 0,.int .i64 0] 83)
      clear hbad hone hx2 hM2 hup2 hu2 hcx
      go_wp2_with fail
      go_ret2
      exact⟨Or.inr ⟨HBB.out,rfl⟩,hup3⟩
  ·have hge':¬(k:Int)<n:=by omega
   have HEND:Hid (joinF ts=some ((ts.map ITok.text).take k)):=Lib.hid (by
    rw [HJ.out,List.drop_eq_nil_of_le (by omega)]
    simp [joinF])
   have hjc:=joined_calls hM' HIN.out (by rw [hlt0];omega)
   have HJC:=Lib.hid hjc
   have hup:=hM'.up
   clear hjc hM'
   go_wp2_with fail
   refine HJC.out.mono ?_
   rintro e w2 ⟨rfl,hu2⟩
   go_wp2_with fail
   go_ret2
   exact⟨Or.inl ⟨_,HEND.out,by first | rfl | rw [List.map_take] | simp⟩,hup.trans_ext hu2⟩
end Go.Proofs.YtkhbpebpljdifaaGreatDoor
