/- Merged texts. -/
import Derived.Test.YtkhbpebpljdifaaGreatDoorMPri
set_option maxRecDepth 100000
set_option maxHeartbeats 25600000
namespace Go.Proofs.YtkhbpebpljdifaaGreatDoor
open Go.PL
theorem lv_false:∀(k:Nat) (nd:Nd),kCz nd≤k→lvF false nd≤1+lvF true nd
 | 0,nd,hn=>by have:=kRw nd;omega
 | k+1,.mk op names so n m ls,hn=>by
  unfold kCz at hn
  have child:∀(op:Int) (place i:Nat),parL (parB op place (opNd ls i) false) ((lvsF true ls).getD i 0) ((lvsF false ls).getD i 0)≤1+parL (parB op place (opNd ls i) true) ((lvsF true ls).getD i 0) ((lvsF true ls).getD i 0):=by
   intro op place i
   have h1:(lvsF false ls).getD i 0≤1+(lvsF true ls).getD i 0:=by
    have key:∀(l:List Nd),(∀x∈l,kCz x≤k)→∀i,(lvsF false l).getD i 0≤1+(lvsF true l).getD i 0:=by
     intro l
     induction l with
     | nil=>intro _ i;simp [lvsF]
     | cons x xs ih =>
      intro h i
      cases i with
      | zero=>simpa [lvsF] using lv_false k x (h x (by simp))
      | succ i=>simpa [lvsF] using ih (fun y hy=>h y (by simp [hy])) i
    exact key ls (fun x hx=>by have:=sizes_mem hx;omega) i
   generalize (lvsF false ls).getD i 0=A at h1 ⊢
   generalize (lvsF true ls).getD i 0=B at h1 ⊢
   unfold parB parL
   simp only [Bool.not_true,Bool.and_false,Bool.or_false,Bool.not_false,Bool.and_true]
   cases kMz op place (opNd ls i)<;>cases decide (15<opNd ls i)<;>simp<;>omega
  unfold lvF
  by_cases h1:op<11
  ·rw [if_pos h1,if_pos h1];omega
  rw [if_neg h1,if_neg h1]
  by_cases h2:op=11
  ·rw [if_pos h2,if_pos h2]
   have:=child 11 0 0
   omega
  rw [if_neg h2,if_neg h2]
  by_cases h3:op<16
  ·rw [if_pos h3,if_pos h3]
   have:=child op 1 1
   omega
  ·rw [if_neg h3,if_neg h3];omega
def fits (b:Nat) (last:Bool) (n:Nd) (D:Nat):Prop:=(b<levF (opF n)∨(15<opF n∧last=false)→D+1+lvF true n≤256)∧(¬(b<levF (opF n)∨(15<opF n∧last=false))→D+lvF last n≤256)
theorem fits_par {n:Nd} {D:Nat} (h:D+1+lvF true n≤256) (b:Nat) (last:Bool):fits b last n D:=by
 refine⟨fun _=>h,fun _=>?_⟩
 cases last with
 | true=>omega
 | false=>have:=lv_false _ n (Nat.le_refl _);omega
theorem fits_raise {n:Nd} {D b b':Nat} {last:Bool} (h:fits b last n D) (hb:b≤b'):fits b' last n D:=by
 by_cases h1:b<levF (opF n)∨(15<opF n∧last=false)
 ·exact fits_par (h.1 h1) b' last
 ·refine⟨fun h2=>absurd ?_ h1,fun _=>h.2 h1⟩
  rcases h2 with h2 | h2
  ·exact Or.inl (by omega)
  ·exact Or.inr h2
theorem fits_parL {op:Int} {place:Nat} {c:Nd} {D b:Nat} {last:Bool} (hp:kMz op place (opF c)=decide (b<levF (opF c))) (h:fits b last c D):D+parL (parB op place (opF c) last) (lvF true c) (lvF last c)≤256:=by
 unfold parB
 rw [hp]
 by_cases h1:b<levF (opF c)∨(15<opF c∧last=false)
 ·have:(decide (b<levF (opF c))||(decide (15<opF c)&&!last))=true:=by
   rcases h1 with h1 | ⟨h1,h2⟩
   ·simp [h1]
   ·simp [h1,h2]
  rw [this]
  have:=h.1 h1
  simp only [parL,if_true]
  omega
 ·have:(decide (b<levF (opF c))||(decide (15<opF c)&&!last))=false:=by
   simp only [not_or,not_and] at h1
   simp only [Bool.or_eq_false_iff,Bool.and_eq_false_iff,decide_eq_false_iff_not,Bool.not_eq_false']
   refine⟨h1.1,?_⟩
   by_cases h2:15<opF c
   ·exact Or.inr (by have:=h1.2 h2;simpa using this)
   ·exact Or.inl h2
  rw [this]
  exact h.2 h1
def lvl0 (c:Nat):Nat:=if c=2 then 2 else c+1
def lvl1 (c:Nat):Nat:=if c=2 then 3 else c
theorem need0 {c:Nat} (hc:c<4) (k:Int):kMz (12+c) 0 k=decide (lvl0 c<levF k):=by
 have hcc:c=0∨c=1∨c=2∨c=3:=by omega
 by_cases g:k<11∨15<k
 ·have h0:levF k=0:=by unfold levF;rw [if_neg (by omega),if_neg (by omega),if_neg (by omega),if_neg (by omega)]
  rw [h0]
  unfold kMz
  rw [if_pos g]
  simp
 ·have hk:k=11∨k=12∨k=13∨k=14∨k=15:=by omega
  rcases hcc with rfl | rfl | rfl | rfl<;>rcases hk with rfl | rfl | rfl | rfl | rfl<;>rfl
theorem need1 {c:Nat} (hc:c<4) (k:Int):kMz (12+c) 1 k=decide (lvl1 c<levF k):=by
 have hcc:c=0∨c=1∨c=2∨c=3:=by omega
 by_cases g:k<11∨15<k
 ·have h0:levF k=0:=by unfold levF;rw [if_neg (by omega),if_neg (by omega),if_neg (by omega),if_neg (by omega)]
  rw [h0]
  unfold kMz
  rw [if_pos g]
  simp
 ·have hk:k=11∨k=12∨k=13∨k=14∨k=15:=by omega
  rcases hcc with rfl | rfl | rfl | rfl<;>rcases hk with rfl | rfl | rfl | rfl | rfl<;>rfl
theorem needN (k:Int):kMz 11 0 k=decide (0<levF k):=by
 by_cases g:k<11∨15<k
 ·have h0:levF k=0:=by unfold levF;rw [if_neg (by omega),if_neg (by omega),if_neg (by omega),if_neg (by omega)]
  rw [h0]
  unfold kMz
  rw [if_pos g]
  simp
 ·have hk:k=11∨k=12∨k=13∨k=14∨k=15:=by omega
  rcases hk with rfl | rfl | rfl | rfl | rfl<;>rfl
theorem levF_con {c:Nat} (hc:c<4):levF (12+c)=c+1:=by
 have hcc:c=0∨c=1∨c=2∨c=3:=by omega
 rcases hcc with rfl | rfl | rfl | rfl<;>rfl
theorem fits_bin {c:Nat} (hc:c<4) {a b:Nd} {D lv:Nat} {last:Bool} (hlv:c+1≤lv) (ha:fits (lvl0 c) false a D) (hb:fits (lvl1 c) last b D):fits lv last (.mk (12+c) [] 0 0 0 [a,b]) D:=by
 refine⟨fun h=>?_,fun _=>?_⟩
 ·simp only [opF,levF_con hc] at h
  omega
 ·have h0:=fits_parL (op:=12+c) (place:=0) (need0 hc _) ha
  have h1:=fits_parL (op:=12+c) (place:=1) (need1 hc _) hb
  unfold lvF
  rw [if_neg (by omega),if_neg (by omega),if_pos (by omega)]
  simp only [lvsF,opNd,List.map_cons,List.map_nil,List.getD_cons_zero,List.getD_cons_succ]
  omega
theorem fits_not {a:Nd} {D:Nat} {last:Bool} (ha:fits 0 last a (D+1)):fits 0 last (.mk 11 [] 0 0 0 [a]) D:=by
 refine⟨fun h=>?_,fun _=>?_⟩
 ·simp only [opF] at h
  have:levF 11=0:=rfl
  omega
 ·have h0:=fits_parL (op:=11) (place:=0) (needN _) ha
  unfold lvF
  rw [if_neg (by omega),if_pos rfl]
  simp only [lvsF,opNd,List.map_cons,List.map_nil,List.getD_cons_zero]
  omega
theorem fits_atom {op so n m:Int} {names:List (List UInt8)} {ls:List Nd} {D:Nat} (hop:op<11) (hD:D≤256) (b:Nat) (last:Bool):fits b last (.mk op names so n m ls) D:=by
 refine⟨fun h=>?_,fun _=>?_⟩
 ·simp only [opF] at h
  have:levF op=0:=by unfold levF;rw [if_neg (by omega),if_neg (by omega),if_neg (by omega),if_neg (by omega)]
  omega
 ·unfold lvF
  rw [if_pos hop]
  exact hD
def NoOp (l:List PL.Tok) (b:Nat) (s:PS):Prop:=∀c,c<b→isF l (opWd c) s=false
structure GoodN (l:List PL.Tok) (b:Nat) (s:PS) (n:Nd) (s':PS):Prop where
 er:s.er=0
 dp:s'.dp=s.dp
 ok:okF n
 fit:fits b true n s.dp
 clo:fits b false n s.dp∨NoOp l 4 s'
 no:NoOp l b s'
def GoodP (l:List PL.Tok) (b:Nat) (of:Rd):Prop:=∀s n s',s.dp≤256→of s=some (n,s')→s'.er=0→GoodN l b s n s'
theorem ok_two {op:Int} (h1:12≤op) (h2:op<16) {a b:Nd} (ha:okF a) (hb:okF b):okF (.mk op [] 0 0 0 [a,b]):=by
 unfold okF oksF oksF oksF
 exact⟨by simp,Or.inr (Or.inr (Or.inr (Or.inr (Or.inr (Or.inr (Or.inr (Or.inl ⟨h1,h2,rfl,rfl,rfl,rfl,rfl⟩))))))),ha,hb,trivial⟩
theorem kQx {l:List PL.Tok} {x:List UInt8} {s:PS} (h:isF l x s=true):s.er=0:=by
 unfold isF at h
 simp only [Bool.and_eq_true,decide_eq_true_eq] at h
 exact h.1.1
section
variable {l:List PL.Tok} {of:Rd}
theorem leftLoop_good {c:Nat} (hc:c<4) (hc2:c≠2) (ho:GoodP l c of):∀(k:Nat) (n0:Nd) (s:PS) (n:Nd) (s':PS),s.dp≤256→okF n0→fits (c+1) true n0 s.dp→(fits (c+1) false n0 s.dp∨NoOp l 4 s)→NoOp l c s →
  kIq l (opWd c) (12+c) of k n0 s=some (n,s')→s'.er=0→GoodN l (c+1) s n s'
 | 0,_,_,_,_,_,_,_,_,_,h,_=>by cases h
 | k+1,n0,s,n,s',hd,h1,h2,h3,h4,h,he=>by
  unfold kIq at h
  by_cases hx:isF l (opWd c) s=true
  ·rw [if_pos hx] at h
   simp only [Option.bind_eq_some_iff] at h
   obtain⟨⟨m,s2⟩,g1,g2⟩:=h
   have hcl:fits (c+1) false n0 s.dp:=by
    rcases h3 with h3 | h3
    ·exact h3
    ·have:=h3 c hc;rw [hx] at this;cases this
   have hs2:s2.er=0:=by
    cases hq:kIq l (opWd c) (12+c) of k (.mk (12+c) [] 0 0 0 [n0,m]) s2 with
    | none=>rw [hq] at g2;cases g2
    | some r =>
     by_cases h0:s2.er=0
     ·exact h0
     ·have hno:isF l (opWd c) s2=false:=by unfold isF;simp [h0]
      cases k with
      | zero=>cases g2
      | succ k =>
       unfold kIq at g2
       rw [hno] at g2
       simp at g2
       rw [←g2.2] at he
       exact absurd he h0
   have hm:=ho (kBx s) m s2 hd g1 hs2
   have hsd:s2.dp=s.dp:=hm.dp
   have hm3:fits (lvl1 c) true m s.dp:=by
    have e:lvl1 c=c:=by unfold lvl1;rw [if_neg hc2]
    rw [e];exact hm.fit
   have e0:lvl0 c=c+1:=by unfold lvl0;rw [if_neg hc2]
   have r:=leftLoop_good hc hc2 ho k (.mk (12+c) [] 0 0 0 [n0,m]) s2 n s' (by rw [hsd];exact hd) (ok_two (by omega) (by omega) h1 hm.ok)
    (by rw [hsd];exact fits_bin hc (Nat.le_refl _) (by rw [e0];exact hcl) hm3)
    (by
     rcases hm.clo with q | q
     ·exact Or.inl (by rw [hsd];exact fits_bin hc (Nat.le_refl _) (by rw [e0];exact hcl) (by
       have e:lvl1 c=c:=by unfold lvl1;rw [if_neg hc2]
       rw [e];exact q))
     ·exact Or.inr q) hm.no g2 he
   have hdd:s2.dp=s.dp:=hsd
   exact⟨kQx hx,by rw [r.dp,hdd],r.ok,by rw [←hdd];exact r.fit,by rw [←hdd];exact r.clo,r.no⟩
  ·rw [if_neg hx] at h
   simp only [Option.some.injEq,Prod.mk.injEq] at h
   obtain⟨rfl,rfl⟩:=h
   refine⟨he,rfl,h1,h2,h3,fun q hq=>?_⟩
   by_cases hqc:q=c
   ·subst hqc;simpa using hx
   ·exact h4 q (by omega)
theorem leftP_good {c:Nat} (hc:c<4) (hc2:c≠2) (ho:GoodP l c of):GoodP l (c+1) (leftP l (opWd c) (12+c) of):=by
 intro s n s' hd h he
 unfold leftP at h
 simp only [Option.bind_eq_some_iff] at h
 obtain⟨⟨m,s1⟩,h1,h2⟩:=h
 have hs1:s1.er=0:=by
  by_cases h0:s1.er=0
  ·exact h0
  ·have hno:isF l (opWd c) s1=false:=by unfold isF;simp [h0]
   simp only [kIq] at h2
   rw [hno] at h2
   simp at h2
   rw [←h2.2] at he
   exact absurd he h0
 have hm:=ho s m s1 hd h1 hs1
 have r:=leftLoop_good hc hc2 ho _ m s1 n s' (by rw [hm.dp];exact hd) hm.ok (by rw [hm.dp];exact fits_raise hm.fit (Nat.le_succ _)) (by
  rw [hm.dp]
  rcases hm.clo with q | q
  ·exact Or.inl (fits_raise q (Nat.le_succ _))
  ·exact Or.inr q) hm.no h2 he
 exact⟨hm.er,by rw [r.dp,hm.dp],r.ok,by rw [←hm.dp];exact r.fit,by rw [←hm.dp];exact r.clo,r.no⟩
def GoodL (l:List PL.Tok) (D:Nat) (s:PS) (acc:List Nd):Prop:=∃ini x,acc=ini++[x]∧(∀y∈ini,okF y∧fits 2 false y D)∧okF x∧fits 2 true x D∧(fits 2 false x D∨NoOp l 4 s)
theorem implFold_good {D:Nat} {s:PS}:∀(ini:List Nd) (x:Nd),(∀y∈ini,okF y∧fits 2 false y D)→okF x→fits 2 true x D→(fits 2 false x D∨NoOp l 4 s) →
  okF (kJz (ini++[x]))∧fits 3 true (kJz (ini++[x])) D∧(fits 3 false (kJz (ini++[x])) D∨NoOp l 4 s)
 | [],x,_,h1,h2,h3=>⟨h1,fits_raise h2 (by decide),h3.imp (fun h=>fits_raise h (by decide)) id⟩
 | y::ini,x,h0,h1,h2,h3=>by
  obtain⟨i1,i2,i3⟩:=implFold_good ini x (fun z hz=>h0 z (by simp [hz])) h1 h2 h3
  have hy:=h0 y (by simp)
  have e:kJz ((y::ini)++[x])=.mk 14 [] 0 0 0 [y,kJz (ini++[x])]:=by
   cases ini<;>rfl
  rw [e]
  exact⟨ok_two (by decide) (by decide) hy.1 i1,fits_bin (c:=2) (by decide) (Nat.le_refl _) hy.2 i2,i3.imp (fun h=>fits_bin (c:=2) (by decide) (Nat.le_refl _) hy.2 h) id⟩
theorem implLoop_good (ho:GoodP l 2 of):∀(k:Nat) (acc:List Nd) (s:PS) (r:List Nd) (s':PS),s.dp≤256→GoodL l s.dp s acc→NoOp l 2 s→kJq l of k acc s=some (r,s')→s'.er=0→s.er=0∧s'.dp=s.dp∧GoodL l s.dp s' r∧NoOp l 3 s'
 | 0,_,_,_,_,_,_,_,h,_=>by cases h
 | k+1,acc,s,r,s',hd,hg,hno,h,he=>by
  unfold kJq at h
  by_cases hx:isF l (opWd 2) s=true
  ·rw [if_pos (show isF l [105,109,112,108,105,101,115] s=true from hx)] at h
   simp only [Option.bind_eq_some_iff] at h
   obtain⟨⟨m,s2⟩,g1,g2⟩:=h
   have hs2:s2.er=0:=by
    by_cases h0:s2.er=0
    ·exact h0
    ·have hn:isF l [105,109,112,108,105,101,115] s2=false:=by unfold isF;simp [h0]
     cases k with
     | zero=>cases g2
     | succ k =>
      simp only [kJq] at g2
      rw [hn] at g2
      simp at g2
      rw [←g2.2] at he
      exact absurd he h0
   have hm:=ho (kBx s) m s2 hd g1 hs2
   have hsd:s2.dp=s.dp:=hm.dp
   obtain⟨ini,x,rfl,q1,q2,q3,q4⟩:=hg
   have hxc:fits 2 false x s.dp:=by
    rcases q4 with q | q
    ·exact q
    ·have:=q 2 (by decide);rw [hx] at this;cases this
   have:=implLoop_good ho k (ini++[x]++[m]) s2 r s' (by rw [hsd];exact hd) ⟨ini++[x],m,rfl,by
    intro y hy
    rw [hsd]
    rcases List.mem_append.1 hy with hy | hy
    ·exact q1 y hy
    ·have:y=x:=by simpa using hy
     subst this
     exact⟨q2,hxc⟩,hm.ok,by rw [hsd];exact hm.fit,by rw [hsd];exact hm.clo⟩ hm.no g2 he
   exact⟨kQx hx,by rw [this.2.1,hsd],by rw [←hsd];exact this.2.2.1,this.2.2.2⟩
  ·rw [if_neg (show ¬isF l [105,109,112,108,105,101,115] s=true from hx)] at h
   simp only [Option.some.injEq,Prod.mk.injEq] at h
   obtain⟨rfl,rfl⟩:=h
   refine⟨he,rfl,hg,fun q hq=>?_⟩
   by_cases hqc:q=2
   ·subst hqc;simpa using hx
   ·exact hno q (by omega)
theorem implies_good (ho:GoodP l 0 of):GoodP l 3 (kMj l of):=by
 have hors:GoodP l 2 (orsP l of):=leftP_good (c:=1) (by decide) (by decide) (leftP_good (c:=0) (by decide) (by decide) ho)
 intro s n s' hd h he
 unfold kMj at h
 simp only [Option.bind_eq_some_iff,Option.map_eq_some_iff] at h
 obtain⟨⟨m,s1⟩,h1,⟨a,s2⟩,h2,h3⟩:=h
 simp only [Prod.mk.injEq] at h3
 obtain⟨rfl,rfl⟩:=h3
 simp only at h2
 have hs1:s1.er=0:=by
  by_cases h0:s1.er=0
  ·exact h0
  ·have hn:isF l [105,109,112,108,105,101,115] s1=false:=by unfold isF;simp [h0]
   simp only [kJq] at h2
   rw [hn] at h2
   simp at h2
   rw [←h2.2] at he
   exact absurd he h0
 have hm:=hors s m s1 hd h1 hs1
 obtain⟨r1,r2,⟨ini,x,rfl,q1,q2,q3,q4⟩,r4⟩:=implLoop_good hors _ [m] s1 a s2 (by rw [hm.dp];exact hd) ⟨[],m,rfl,by simp,hm.ok,by rw [hm.dp];exact hm.fit,by rw [hm.dp];exact hm.clo⟩ hm.no h2 he
 obtain⟨i1,i2,i3⟩:=implFold_good ini x q1 q2 q3 q4
 exact⟨hm.er,by rw [r2,hm.dp],i1,by rw [←hm.dp];exact i2,by rw [←hm.dp];exact i3,r4⟩
theorem formula_good (ho:GoodP l 0 of):GoodP l 4 (kLx l of):=leftP_good (c:=3) (by decide) (by decide) (implies_good ho)
end
end Go.Proofs.YtkhbpebpljdifaaGreatDoor
namespace Go.Proofs.YtkhbpebpljdifaaGreatDoor
open Go.PL
theorem not_flag (m:Nd):¬(4<levF (opF m)∨(15<opF m∧true=false)):=by
 have:=levF_le (opF m)
 rintro (q | ⟨-,q⟩)
 ·omega
 ·cases q
theorem kFq {k:Nat} (hk:k≠0) {s:PS}:(kCk k s).er≠0:=kLk hk s
section
variable {l:List PL.Tok} (hR:RealL l)
theorem tk_mem {s:PS} (h:(tkAt l s).kind≠0):tkAt l s∈l:=by
 unfold tkAt at h ⊢
 rw [List.getD_eq_getElem?_getD] at h ⊢
 cases hl:l[s.nx]? with
 | none=>rw [hl] at h;exact absurd rfl h
 | some t=>rw [Option.getD_some];exact List.mem_of_getElem? hl
theorem kUk {x:List UInt8} {s:PS} (h:(kPj l x s).er=0):s.er=0:=by
 unfold kPj at h
 by_cases hx:isF l x s=true
 ·exact kQx hx
 ·rw [if_neg hx] at h
  exact absurd h (kFq (by decide))
theorem need_dp (x:List UInt8) (s:PS):(kPj l x s).dp=s.dp:=by
 unfold kPj
 split
 ·rfl
 ·exact wrongF_dp _ _
include hR
theorem kNk {s:PS} (h:(kAj l s).2.er=0):s.er=0∧Real 1 (kAj l s).1 0∧(kAj l s).2.dp=s.dp:=by
 unfold kAj at h ⊢
 simp only at h ⊢
 by_cases hk:(tkAt l s).kind=1
 ·rw [if_pos hk] at h ⊢
  by_cases he:s.er=0
  ·rw [if_pos he] at h ⊢
   have hr:=hR _ (tk_mem (s:=s) (by omega)) (by omega)
   refine⟨he,?_,rfl⟩
   unfold RealT at hr
   rw [hk] at hr
   rcases hr with⟨b,-,-,h4,-⟩ | ⟨h1,h2,h3⟩
   ·cases h4
   ·refine Or.inr ⟨h1,h2,?_⟩
    have h0:(tkAt l s).val=0:=by
     generalize hx:(tkAt l s).text=x at h3
     cases x with
     | nil=>cases h3
     | cons b t =>
      simp only [kEw] at h3
      split at h3
      ·split at h3
       ·cases h3
       ·split at h3
        ·cases h3
        ·cases h3
      ·split at h3
       ·cases h3
       ·split at h3
        ·cases h3
        ·split at h3
         ·cases h3
         ·exact (Prod.mk.inj (Except.ok.inj h3)).2.symm
    rw [h0] at h3
    exact h3
  ·rw [if_neg he] at h
   exact absurd h he
 ·rw [if_neg hk] at h
  have hw:=kFq (k:=3) (by decide) (s:=s)
  rw [if_neg hw] at h
  exact absurd h hw
omit hR in
theorem number_good {a z:Int} {s:PS} (h:(kHq l a z s).2.er=0):s.er=0∧a≤(kHq l a z s).1∧(kHq l a z s).1≤z∧(kHq l a z s).2.dp=s.dp:=by
 unfold kHq at h ⊢
 simp only at h ⊢
 by_cases hk:(tkAt l s).kind=2
 ·rw [if_pos hk] at h ⊢
  by_cases hv:((tkAt l s).val:Int)<a∨z<(tkAt l s).val
  ·rw [if_pos hv] at h
   have hw:=kFq (k:=2) (by decide) (s:=s)
   rw [if_neg hw] at h
   exact absurd h hw
  ·rw [if_neg hv] at h ⊢
   by_cases he:s.er=0
   ·rw [if_pos he] at h ⊢
    exact⟨he,by simp only;omega,by simp only;omega,rfl⟩
   ·rw [if_neg he] at h
    exact absurd h he
 ·rw [if_neg hk] at h
  have hw:=kFq (k:=3) (by decide) (s:=s)
  rw [if_neg hw] at h
  exact absurd h hw
omit hR in
theorem first_le (s:PS):∀(xs:List (List UInt8)) (i j:Nat),kPk l s xs i=some j→i≤j∧j<i+xs.length∧s.er=0
 | [],i,j,h=>by cases h
 | x::xs,i,j,h=>by
  unfold kPk at h
  by_cases hx:isF l x s=true
  ·rw [if_pos hx] at h
   cases h
   exact⟨Nat.le_refl _,by simp,kQx hx⟩
  ·rw [if_neg hx] at h
   have:=first_le s xs (i+1) j h
   simp only [List.length_cons]
   omega
omit hR in
theorem sort_good {s:PS} (h:(kBz l s).2.er=0):s.er=0∧0≤(kBz l s).1∧(kBz l s).1<4∧(kBz l s).2.dp=s.dp:=by
 unfold kBz at h ⊢
 cases hf:kPk l s kDj 0 with
 | none =>
  rw [hf] at h
  exact absurd h (kFq (by decide))
 | some i =>
  obtain⟨h1,h2,h3⟩:=first_le s _ _ _ hf
  have:kDj.length=4:=rfl
  exact⟨h3,by simp only;omega,by simp only;omega,rfl⟩
omit hR in
theorem level_good {_b:Nat} {of:Rd} {s:PS} {n:Nd} {s':PS} (hd:s.dp≤256) (h:levelP of s=some (n,s')) (he:s'.er=0):s.er=0∧s.dp<256∧∃s2,of ⟨s.nx+1,0,s.dp+1⟩=some (n,s2)∧s2.er=0∧s'=⟨s2.nx,0,s2.dp-1⟩:=by
 unfold levelP at h
 simp only at h
 by_cases h1:s.dp=256
 ·rw [if_pos h1] at h
  have hw:=kFq (k:=16) (by decide) (s:=s)
  rw [if_neg hw] at h
  simp only [Option.some.injEq,Prod.mk.injEq] at h
  rw [←h.2] at he
  exact absurd he hw
 ·rw [if_neg h1] at h
  by_cases h2:s.er=0
  ·rw [if_pos h2] at h
   simp only [Option.map_eq_some_iff] at h
   obtain⟨⟨m,s2⟩,g1,g2⟩:=h
   simp only [Prod.mk.injEq] at g2
   obtain⟨rfl,rfl⟩:=g2
   have he2:s2.er=0:=he
   have e:({ nx:=s.nx+1,er:=s.er,dp:=s.dp+1 }:PS)=⟨s.nx+1,0,s.dp+1⟩:=by rw [h2]
   refine⟨h2,by omega,s2,?_,he2,?_⟩
   ·rw [←e];exact g1
   ·cases s2;simp only at he2;subst he2;rfl
  ·rw [if_neg h2] at h
   simp only [Option.some.injEq,Prod.mk.injEq] at h
   rw [←h.2] at he
   exact absurd he h2
omit hR in
theorem good_par {s:PS} {n:Nd} {s':PS} (her:s.er=0) (hdp:s'.dp=s.dp) (hok:okF n) (h:s.dp+1+lvF true n≤256):GoodN l 0 s n s':=⟨her,hdp,hok,fits_par h _ _,Or.inl (fits_par h _ _),fun c hc=>by omega⟩
omit hR in
theorem good_atom {s:PS} {s':PS} {op so n m:Int} {names:List (List UInt8)} {ls:List Nd} (hD:s.dp≤256) (her:s.er=0) (hdp:s'.dp=s.dp) (hop:op<11) (hok:okF (.mk op names so n m ls)):GoodN l 0 s (.mk op names so n m ls) s':=⟨her,hdp,hok,fits_atom hop hD _ _,Or.inl (fits_atom hop hD _ _),fun c hc=>by omega⟩
omit hR in
theorem paren_good {fm:Rd} (hf:GoodP l 4 fm):GoodP l 0 (parenP l fm):=by
 intro s n s' hd h he
 obtain⟨h1,h2,s2,h3,h4,rfl⟩:=level_good (_b:=0) hd h he
 simp only [Option.map_eq_some_iff] at h3
 obtain⟨⟨m,s3⟩,g1,g2⟩:=h3
 simp only [Prod.mk.injEq] at g2
 obtain⟨rfl,rfl⟩:=g2
 have h5:=kUk h4
 have hg:=hf _ m s3 (by simp only;omega) g1 h5
 have hdp:s3.dp=s.dp+1:=hg.dp
 refine good_par h1 ?_ hg.ok ?_
 ·simp only [need_dp,hdp];omega
 ·have:=hg.fit.2 (not_flag m)
  simp only at this
  omega
omit hR in
theorem not_good {of:Rd} (hf:GoodP l 0 of):GoodP l 0 (notP of):=by
 intro s n s' hd h he
 obtain⟨h1,h2,s2,h3,h4,rfl⟩:=level_good (_b:=0) hd h he
 simp only [Option.map_eq_some_iff] at h3
 obtain⟨⟨m,s3⟩,g1,g2⟩:=h3
 simp only [Prod.mk.injEq] at g2
 obtain⟨rfl,rfl⟩:=g2
 have hg:=hf _ m s3 (by simp only;omega) g1 h4
 have hdp:s3.dp=s.dp+1:=hg.dp
 refine⟨h1,by simp only [hdp];omega,?_,fits_not hg.fit,?_,fun c hc=>by omega⟩
 ·unfold okF oksF oksF
  exact⟨by simp,Or.inr (Or.inr (Or.inr (Or.inr (Or.inr (Or.inr (Or.inl ⟨rfl,rfl,rfl,rfl,rfl,rfl⟩)))))),hg.ok,trivial⟩
 ·refine hg.clo.imp (fun q=>fits_not q) (fun q c hc=>?_)
  have:=q c hc
  unfold isF at this ⊢
  simp only [h4] at this
  exact this
theorem bind_good {fm:Rd} (hf:GoodP l 4 fm) {op:Int} (hop:op=16∨op=17):GoodP l 0 (bindP l op fm):=by
 intro s n s' hd h he
 obtain⟨h1,h2,s2,h3,h4,rfl⟩:=level_good (_b:=0) hd h he
 simp only [Option.map_eq_some_iff] at h3
 obtain⟨⟨m,s3⟩,g1,g2⟩:=h3
 simp only [Prod.mk.injEq] at g2
 obtain⟨rfl,rfl⟩:=g2
 have d0:(kPj l [58] (kAj l (kBz l ⟨s.nx+1,0,s.dp+1⟩).2).2).dp=(kAj l (kBz l ⟨s.nx+1,0,s.dp+1⟩).2).2.dp:=need_dp _ _
 have hle:(kPj l [58] (kAj l (kBz l ⟨s.nx+1,0,s.dp+1⟩).2).2).dp≤256→GoodN l 4 (kPj l [58] (kAj l (kBz l ⟨s.nx+1,0,s.dp+1⟩).2).2) m s3:=fun hq=>hf _ m s3 hq g1 h4
 have dpI:∀s:PS,(kAj l s).2.dp=s.dp:=by
  intro s
  unfold kAj
  simp only
  by_cases hk:(tkAt l s).kind=1
  ·rw [if_pos hk]
   by_cases he:s.er=0
   ·rw [if_pos he];rfl
   ·rw [if_neg he]
  ·rw [if_neg hk,if_neg (kFq (by decide))]
   exact wrongF_dp _ _
 have dpS:∀s:PS,(kBz l s).2.dp=s.dp:=by
  intro s
  unfold kBz
  split
  ·rfl
  ·exact wrongF_dp _ _
 have hdp:(kPj l [58] (kAj l (kBz l ⟨s.nx+1,0,s.dp+1⟩).2).2).dp=s.dp+1:=by rw [d0,dpI,dpS]
 have hg:=hle (by omega)
 have e1:=kUk hg.er
 obtain⟨e2,hreal,-⟩:=kNk hR e1
 obtain⟨-,hs0,hs4,-⟩:=sort_good e2
 have hfit:=hg.fit
 have hd3:=hg.dp
 rw [hdp] at hfit hd3
 have hlv:s.dp+1+lvF true m≤256:=hfit.2 (not_flag m)
 have hno:NoOp l 4 ⟨s3.nx,0,s3.dp-1⟩:=by
  intro c hc
  have:=hg.no c hc
  unfold isF at this ⊢
  simp only [h4] at this
  exact this
 have hlev:levF op=0:=by unfold levF;rw [if_neg (by omega),if_neg (by omega),if_neg (by omega),if_neg (by omega)]
 refine⟨h1,by simp only [hd3];omega,?_,?_,Or.inr hno,fun c hc=>by omega⟩
 ·unfold okF oksF oksF
  refine⟨?_,Or.inr (Or.inr (Or.inr (Or.inr (Or.inr (Or.inr (Or.inr (Or.inr ⟨by omega,by omega,rfl,rfl,hs0,hs4,rfl,rfl⟩))))))),hg.ok,trivial⟩
  intro x hx
  have:x=(kAj l (kBz l ⟨s.nx+1,0,s.dp+1⟩).2).1:=by simpa using hx
  rw [this]
  exact hreal
 ·refine⟨fun h=>?_,fun _=>?_⟩
  ·simp only [opF,hlev] at h
   rcases h with h | ⟨-,h⟩
   ·omega
   ·cases h
  ·unfold lvF
   rw [if_neg (by omega),if_neg (by omega),if_neg (by omega)]
   simp only [lvsF,List.getD_cons_zero]
   omega
end
end Go.Proofs.YtkhbpebpljdifaaGreatDoor
namespace Go.Proofs.YtkhbpebpljdifaaGreatDoor
open Go.PL
theorem real_in {a x:List UInt8} (hr:Real 1 a 0) (hx:x∈[a]):Real 1 x 0:=by
 have:x=a:=by simpa using hx
 rw [this];exact hr
section
variable {l:List PL.Tok} (hR:RealL l)
theorem ident_dp (l:List PL.Tok) (s:PS):(kAj l s).2.dp=s.dp:=by
 unfold kAj
 simp only
 by_cases hk:(tkAt l s).kind=1
 ·rw [if_pos hk]
  by_cases he:s.er=0
  ·rw [if_pos he];rfl
  ·rw [if_neg he]
 ·rw [if_neg hk,if_neg (kFq (by decide))]
  exact wrongF_dp _ _
theorem callLoop_dp:∀(k:Nat) (xs:List (List UInt8)) (s:PS) (r:List (List UInt8)) (s':PS),kJk l k xs s=some (r,s')→s'.dp=s.dp
 | 0,_,_,_,_,h=>by cases h
 | k+1,xs,s,r,s',h=>by
  simp only [kJk] at h
  by_cases h0:s.er=0
  ·rw [if_pos h0] at h
   by_cases h1:(tkAt l s).kind=1∧xs.length=17
   ·rw [if_pos h1] at h
    cases h
    exact wrongF_dp _ _
   ·rw [if_neg h1] at h
    by_cases h2:isF l [44] (kAj l s).2=true
    ·rw [if_pos h2] at h
     rw [callLoop_dp k _ _ r s' h]
     exact ident_dp l s
    ·rw [if_neg h2] at h
     cases h
     rw [need_dp,ident_dp]
  ·rw [if_neg h0] at h
   cases h
   rfl
include hR
theorem callLoop_good:∀(k:Nat) (xs:List (List UInt8)) (s:PS) (r:List (List UInt8)) (s':PS),xs.length≤17→(∀x∈xs,Real 1 x 0)→kJk l k xs s=some (r,s')→s'.er=0→s.er=0∧r.length≤17∧xs.length<r.length∧(∀x∈r,Real 1 x 0)
 | 0,_,_,_,_,_,_,h,_=>by cases h
 | k+1,xs,s,r,s',h17,hx,h,he=>by
  simp only [kJk] at h
  by_cases h0:s.er=0
  ·rw [if_pos h0] at h
   by_cases h1:(tkAt l s).kind=1∧xs.length=17
   ·rw [if_pos h1] at h
    cases h
    exact absurd he (kFq (by decide))
   ·rw [if_neg h1] at h
    have key:(kAj l s).2.er=0→Real 1 (kAj l s).1 0∧xs.length<17:=by
     intro hi
     refine⟨(kNk hR hi).2.1,?_⟩
     have hk:(tkAt l s).kind=1:=by
      by_cases hk:(tkAt l s).kind=1
      ·exact hk
      ·exfalso
       unfold kAj at hi
       simp only at hi
       rw [if_neg hk,if_neg (kFq (by decide))] at hi
       exact kFq (by decide) hi
     have:xs.length≠17:=fun q=>h1 ⟨hk,q⟩
     omega
    by_cases h2:isF l [44] (kAj l s).2=true
    ·rw [if_pos h2] at h
     have hi:(kAj l s).2.er=0:=kQx h2
     obtain⟨k1,k2⟩:=key hi
     have:=callLoop_good k (xs++[(kAj l s).1]) (kBx (kAj l s).2) r s' (by simp;omega) (by
      intro x hx'
      rcases List.mem_append.1 hx' with hx' | hx'
      ·exact hx x hx'
      ·have:x=(kAj l s).1:=by simpa using hx'
       rw [this];exact k1) h he
     refine⟨h0,this.2.1,?_,this.2.2.2⟩
     have h3:=this.2.2.1
     simp at h3
     omega
    ·rw [if_neg h2] at h
     cases h
     obtain⟨k1,k2⟩:=key (kUk he)
     refine⟨h0,by simp;omega,by simp,?_⟩
     intro x hx'
     rcases List.mem_append.1 hx' with hx' | hx'
     ·exact hx x hx'
     ·have:x=(kAj l s).1:=by simpa using hx'
      rw [this];exact k1
  ·rw [if_neg h0] at h
   cases h
   exact absurd he h0
omit hR in
theorem ok_leaf {op so n m:Int} {names:List (List UInt8)} (hn:∀x∈names,Real 1 x 0) (h:((op=0∨op=1)∧names=[]∧so=0∧n=0∧m=0)∨(2≤op∧op<7∧names.length=2∧so=0∧n=0∧m=0)∨(op=7∧names.length=1∧so=0∧0≤n∧n≤7∧m=0)∨(op=8∧names.length=1∧so=0∧0≤n∧n<m∧m≤64)∨(op=9∧names.length=1∧so=0∧n=0∧m=0)∨(op=10∧1≤names.length∧names.length≤17∧so=0∧n=0∧m=0)):okF (.mk op names so n m []):=by
 unfold okF oksF
 refine⟨hn,?_,trivial⟩
 rcases h with⟨h1,h2,h3,h4,h5⟩ | ⟨h1,h2,h3,h4,h5,h6⟩ | ⟨h1,h2,h3,h4,h5,h6⟩ | ⟨h1,h2,h3,h4,h5,h6⟩ | ⟨h1,h2,h3,h4,h5⟩ | ⟨h1,h2,h3,h4,h5,h6⟩
 ·exact Or.inl ⟨h1,h2,rfl,h3,h4,h5⟩
 ·exact Or.inr (Or.inl ⟨h1,h2,h3,rfl,h4,h5,h6⟩)
 ·exact Or.inr (Or.inr (Or.inl ⟨h1,h2,rfl,h3,h4,h5,h6⟩))
 ·exact Or.inr (Or.inr (Or.inr (Or.inl ⟨h1,h2,rfl,h3,h4,h5,h6⟩)))
 ·exact Or.inr (Or.inr (Or.inr (Or.inr (Or.inl ⟨h1,h2,rfl,h3,h4,h5⟩))))
 ·exact Or.inr (Or.inr (Or.inr (Or.inr (Or.inr (Or.inl ⟨h1,h2,h3,rfl,h4,h5,h6⟩)))))
theorem size_good {s:PS} (hd:s.dp≤256) (he:(sizeP l s).2.er=0):GoodN l 0 s (sizeP l s).1 (sizeP l s).2:=by
 unfold sizeP at he ⊢
 simp only at he ⊢
 obtain⟨e1,b1,b2,d1⟩:=number_good he
 have e2:=kUk e1
 obtain⟨e3,c1,c2,d2⟩:=number_good e2
 have e4:=kUk e3
 obtain⟨e5,hr,d3⟩:=kNk hR e4
 refine good_atom hd (show s.er=0 from e5) ?_ (by decide) (ok_leaf (fun x hx=>real_in hr hx) (Or.inr (Or.inr (Or.inr (Or.inl ⟨rfl,rfl,rfl,b1,by omega,c2⟩)))))
 rw [d1,need_dp,d2,need_dp,d3]
 rfl
theorem one_good {s:PS} (hd:s.dp≤256) (he:(oneP l s).2.er=0):GoodN l 0 s (oneP l s).1 (oneP l s).2:=by
 unfold oneP at he ⊢
 simp only at he ⊢
 obtain⟨e5,hr,d3⟩:=kNk hR he
 exact good_atom hd (show s.er=0 from e5) (by rw [d3];rfl) (by decide) (ok_leaf (fun x hx=>real_in hr hx) (Or.inr (Or.inr (Or.inr (Or.inr (Or.inl ⟨rfl,rfl,rfl,rfl,rfl⟩))))))
theorem call_good {f:List UInt8} (hf:Real 1 f 0) {s:PS} {n:Nd} {s':PS} (hd:s.dp≤256) (hs:s.er=0) (h:callP l f s=some (n,s')) (he:s'.er=0):GoodN l 0 s n s':=by
 unfold callP at h
 simp only at h
 by_cases h1:isF l [41] (kBx s)=true
 ·rw [if_pos h1] at h
  cases h
  exact good_atom hd hs rfl (by decide) (ok_leaf (fun x hx=>real_in hf hx) (Or.inr (Or.inr (Or.inr (Or.inr (Or.inr ⟨rfl,by simp,by simp,rfl,rfl,rfl⟩))))))
 ·rw [if_neg h1] at h
  simp only [Option.map_eq_some_iff] at h
  obtain⟨⟨xs,s2⟩,g1,g2⟩:=h
  simp only [Prod.mk.injEq] at g2
  obtain⟨rfl,rfl⟩:=g2
  obtain⟨c1,c2,c3,c4⟩:=callLoop_good hR _ [f] _ xs s2 (by simp) (fun x hx=>real_in hf hx) g1 he
  have hdp:=callLoop_dp _ _ _ _ _ g1
  exact good_atom hd hs (by rw [hdp];rfl) (by decide) (ok_leaf c4 (Or.inr (Or.inr (Or.inr (Or.inr (Or.inr ⟨rfl,by omega,c2,rfl,rfl,rfl⟩))))))
theorem atom_good:GoodP l 0 (atomP l):=by
 intro s n s' hd h he
 unfold atomP at h
 simp only at h
 by_cases h1:isF l [40] (kAj l s).2=true
 ·rw [if_pos h1] at h
  obtain⟨e1,hr,d1⟩:=kNk hR (kQx h1)
  have:=call_good hR hr (s:=(kAj l s).2) (by rw [d1];exact hd) (kQx h1) h he
  refine⟨e1,by rw [this.dp,d1],this.ok,by rw [←d1];exact this.fit,by rw [←d1];exact this.clo,this.no⟩
 ·rw [if_neg h1] at h
  by_cases h2:isF l [105,115] (kAj l s).2=true
  ·rw [if_pos h2] at h
   obtain⟨e1,hr,d1⟩:=kNk hR (kQx h2)
   cases h
   obtain⟨-,b1,b2,d2⟩:=number_good he
   exact good_atom hd e1 (by rw [d2];exact d1) (by decide) (ok_leaf (fun x hx=>real_in hr hx) (Or.inr (Or.inr (Or.inl ⟨rfl,rfl,rfl,b1,b2,rfl⟩))))
  ·rw [if_neg h2] at h
   cases hf:kPk l (kAj l s).2 kQz 0 with
   | none =>
    rw [hf] at h
    cases h
    exact absurd he (kFq (by decide))
   | some i =>
    rw [hf] at h
    cases h
    obtain⟨-,h5,h6⟩:=first_le _ _ _ _ hf
    have h5':i<5:=by simpa [kQz] using h5
    obtain⟨e1,hr,d1⟩:=kNk hR h6
    obtain⟨-,hr2,d2⟩:=kNk hR he
    refine good_atom hd e1 (by rw [d2];exact d1) (by omega) (ok_leaf ?_ (Or.inr (Or.inl ⟨by omega,by omega,rfl,rfl,rfl,rfl⟩)))
    intro x hx
    simp only [List.mem_cons,List.not_mem_nil,or_false] at hx
    rcases hx with rfl | rfl
    ·exact hr
    ·exact hr2
theorem operand_good:∀d:Nat,GoodP l 0 (kCj l d)
 | 0=>by intro s n s' _ h;cases h
 | d+1=>by
  have ih:=operand_good d
  have hfm:=formula_good ih
  intro s n s' hd h he
  unfold kCj at h
  simp only at h
  by_cases hk:((tkAt l s).kind=3∨(tkAt l s).kind=4)∧s.er=0
  ·rw [if_pos hk] at h
   by_cases t1:(tkAt l s).text=[116,114,117,101]
   ·rw [if_pos t1] at h
    cases h
    exact good_atom hd hk.2 rfl (by decide) (ok_leaf (by simp) (Or.inl ⟨Or.inl rfl,rfl,rfl,rfl,rfl⟩))
   rw [if_neg t1] at h
   by_cases t2:(tkAt l s).text=[102,97,108,115,101]
   ·rw [if_pos t2] at h
    cases h
    exact good_atom hd hk.2 rfl (by decide) (ok_leaf (by simp) (Or.inl ⟨Or.inr rfl,rfl,rfl,rfl,rfl⟩))
   rw [if_neg t2] at h
   by_cases t3:(tkAt l s).text=[115,105,122,101]
   ·rw [if_pos t3] at h
    simp only [Option.some.injEq] at h
    have:=size_good hR hd (by rw [h];exact he)
    rw [h] at this
    exact this
   rw [if_neg t3] at h
   by_cases t4:(tkAt l s).text=[111,110,101]
   ·rw [if_pos t4] at h
    simp only [Option.some.injEq] at h
    have:=one_good hR hd (by rw [h];exact he)
    rw [h] at this
    exact this
   rw [if_neg t4] at h
   by_cases t5:(tkAt l s).text=[110,111,116]
   ·rw [if_pos t5] at h
    exact not_good ih s n s' hd h he
   rw [if_neg t5] at h
   by_cases t6:(tkAt l s).text=[115,111,109,101]
   ·rw [if_pos t6] at h
    exact bind_good hR hfm (Or.inl rfl) s n s' hd h he
   rw [if_neg t6] at h
   by_cases t7:(tkAt l s).text=[101,118,101,114,121]
   ·rw [if_pos t7] at h
    exact bind_good hR hfm (Or.inr rfl) s n s' hd h he
   rw [if_neg t7] at h
   by_cases t8:(tkAt l s).text=[40]
   ·rw [if_pos t8] at h
    exact paren_good hfm s n s' hd h he
   rw [if_neg t8] at h
   exact atom_good hR s n s' hd h he
  ·rw [if_neg hk] at h
   exact atom_good hR s n s' hd h he
theorem whole_good:GoodP l 4 (wholeP l):=formula_good (operand_good hR 257)
theorem freeLoop_good:∀(k:Nat) (out:List (List UInt8×Int)) (s:PS) (r:List (List UInt8×Int)) (s':PS),okV out→kNz l k out s=some (r,s')→s'.er=0→s.er=0∧s'.dp=s.dp∧okV r
 | 0,_,_,_,_,_,h,_=>by cases h
 | k+1,out,s,r,s',hv,h,he=>by
  simp only [kNz] at h
  by_cases h0:s.er=0
  ·rw [if_pos h0] at h
   generalize hs2:(if (tkAt l (kBz l s).2).kind=1 then (if out.length=8 then kCk 8 (kBz l s).2 else if (out.any fun o=>decide (o.1=(tkAt l (kBz l s).2).text))=true then kCk 7 (kBz l s).2 else (kBz l s).2) else (kBz l s).2)=s2 at h
   have key:(kAj l s2).2.er=0→okV (out++[((kAj l s2).1,(kBz l s).1)])∧(kAj l s2).2.dp=s.dp:=by
    intro hi
    obtain⟨e2,hr,d2⟩:=kNk hR hi
    have hk:(tkAt l s2).kind=1:=by
     by_cases hk:(tkAt l s2).kind=1
     ·exact hk
     ·exfalso
      unfold kAj at hi
      simp only at hi
      rw [if_neg hk,if_neg (kFq (by decide))] at hi
      exact kFq (by decide) hi
    have hnx:s2.nx=(kBz l s).2.nx:=by
     rw [←hs2]
     repeat' split
     all_goals first | rfl | exact kPw _ _
    have htk:tkAt l s2=tkAt l (kBz l s).2:=by unfold tkAt;rw [hnx]
    rw [htk] at hk
    rw [if_pos hk] at hs2
    by_cases g1:out.length=8
    ·rw [if_pos g1] at hs2
     rw [←hs2] at e2
     exact absurd e2 (kFq (by decide))
    rw [if_neg g1] at hs2
    by_cases g2:(out.any fun o=>decide (o.1=(tkAt l (kBz l s).2).text))=true
    ·rw [if_pos g2] at hs2
     rw [←hs2] at e2
     exact absurd e2 (kFq (by decide))
    rw [if_neg g2] at hs2
    rw [←hs2] at e2
    obtain⟨-,q0,q4,dq⟩:=sort_good e2
    obtain⟨v1,v2,v3⟩:=hv
    have hname:(kAj l s2).1=(tkAt l (kBz l s).2).text:=by
     rw [←hs2]
     unfold kAj
     simp only
     rw [if_pos hk,if_pos e2]
    refine⟨⟨by simp;omega,?_,?_⟩,by rw [d2,←hs2,dq]⟩
    ·intro v hv'
     rcases List.mem_append.1 hv' with hv' | hv'
     ·exact v2 v hv'
     ·have:v=((kAj l s2).1,(kBz l s).1):=by simpa using hv'
      rw [this]
      exact⟨hr,q0,q4⟩
    ·refine List.pairwise_append.2 ⟨v3,by simp,?_⟩
     intro a ha b hb
     have:b=((kAj l s2).1,(kBz l s).1):=by simpa using hb
     rw [this]
     simp only
     rw [hname]
     intro hab
     apply g2
     rw [List.any_eq_true]
     exact⟨a,ha,by simp [hab]⟩
   by_cases h2:isF l [44] (kAj l s2).2=true
   ·rw [if_pos h2] at h
    obtain⟨k1,k2⟩:=key (kQx h2)
    have:=freeLoop_good k _ (kBx (kAj l s2).2) r s' k1 h he
    exact⟨h0,by rw [this.2.1];exact k2,this.2.2⟩
   ·rw [if_neg h2] at h
    cases h
    obtain⟨k1,k2⟩:=key (kUk he)
    exact⟨h0,by rw [need_dp,k2],k1⟩
  ·rw [if_neg h0] at h
   cases h
   exact absurd he h0
theorem free_good {s:PS} {r:List (List UInt8×Int)} {s':PS} (h:freeP l s=some (r,s')) (he:s'.er=0):s'.dp=s.dp∧okV r:=by
 have h0:okV []:=⟨by simp,by simp,by simp⟩
 unfold freeP at h
 by_cases hx:isF l [102,105,110,100] s=true
 ·rw [if_pos hx] at h
  have:=freeLoop_good hR _ [] (kBx s) r s' h0 h he
  exact⟨this.2.1,this.2.2⟩
 ·rw [if_neg hx] at h
  cases h
  exact⟨rfl,h0⟩
theorem query_good {q:Qn} {s:PS} (h:kFw l=some (q,s)) (he:(endF l q s).er=0):endF l q s=⟨q,0,0,0⟩∧okV q.free∧okF q.body∧lvF true q.body≤256∧kIz q.body=0:=by
 unfold kFw at h
 simp only [Option.bind_eq_some_iff,Option.map_eq_some_iff] at h
 obtain⟨⟨f,s1⟩,h1,⟨n,s2⟩,h2,h3⟩:=h
 simp only [Prod.mk.injEq] at h3
 obtain⟨rfl,rfl⟩:=h3
 simp only at h2
 unfold endF at he ⊢
 simp only at he ⊢
 generalize hs:(if (tkAt l s2).kind=0 then s2 else kCk 3 s2)=s3 at he ⊢
 by_cases h0:s3.er=0
 ·rw [if_pos h0] at he ⊢
  by_cases hg:kIz n=0
  ·rw [if_pos hg] at he ⊢
   have hs2:s2.er=0:=by
    by_cases hk:(tkAt l s2).kind=0
    ·rw [if_pos hk] at hs;rw [hs];exact h0
    ·rw [if_neg hk] at hs
     rw [←hs] at h0
     exact absurd h0 (kFq (by decide))
   have hf:=whole_good hR s1 n s2
   have hd1:s1.er=0→s1.dp=0∧okV f:=fun e=>by have:=free_good hR h1 e;exact⟨this.1,this.2⟩
   have hdp:s1.dp≤256:=by
    by_cases hx:isF l [102,105,110,100] ⟨0,0,0⟩=true
    ·unfold freeP at h1
     rw [if_pos hx] at h1
     have:∀(k:Nat) (out:List (List UInt8×Int)) (s:PS) (r:List (List UInt8×Int)) (s':PS),kNz l k out s=some (r,s')→s'.dp=s.dp:=by
      intro k
      induction k with
      | zero=>intro _ _ _ _ h;cases h
      | succ k ih =>
       intro out s r s' h
       simp only [kNz] at h
       have dS:∀s:PS,(kBz l s).2.dp=s.dp:=by
        intro s
        unfold kBz
        split
        ·rfl
        ·exact wrongF_dp _ _
       by_cases h0:s.er=0
       ·rw [if_pos h0] at h
        generalize hs2:(if (tkAt l (kBz l s).2).kind=1 then (if out.length=8 then kCk 8 (kBz l s).2 else if (out.any fun o=>decide (o.1=(tkAt l (kBz l s).2).text))=true then kCk 7 (kBz l s).2 else (kBz l s).2) else (kBz l s).2)=s2 at h
        have d2:s2.dp=s.dp:=by
         rw [←hs2,←dS s]
         repeat' split
         all_goals first | rfl | exact wrongF_dp _ _
        by_cases h2:isF l [44] (kAj l s2).2=true
        ·rw [if_pos h2] at h
         rw [ih _ _ _ _ h,←d2]
         exact ident_dp l s2
        ·rw [if_neg h2] at h
         cases h
         rw [need_dp,ident_dp,d2]
       ·rw [if_neg h0] at h
        cases h
        rfl
     rw [this _ _ _ _ _ h1]
     simp [kBx]
    ·unfold freeP at h1
     rw [if_neg hx] at h1
     cases h1
     simp
   have hg2:=hf hdp h2 hs2
   obtain⟨hd0,hv⟩:=hd1 hg2.er
   refine⟨rfl,hv,hg2.ok,?_,hg⟩
   have:=hg2.fit.2 (not_flag n)
   show lvF true n≤256
   omega
  ·rw [if_neg hg] at he
   exact absurd he hg
 ·rw [if_neg h0] at he
  exact absurd he h0
end
end Go.Proofs.YtkhbpebpljdifaaGreatDoor
namespace Go.Proofs.YtkhbpebpljdifaaGreatDoor
open Go.PL
def Wt (l:List PL.Tok) (i:Nat):Nat:=wts (l.take i)
section
variable {l:List PL.Tok}
theorem Wt_step {s:PS} (h:(tkAt l s).kind≠0):Wt l (s.nx+1)=Wt l s.nx+wt (tkAt l s):=by
 unfold Wt
 have hlt:s.nx<l.length:=by
  unfold tkAt at h
  rcases Nat.lt_or_ge s.nx l.length with hh | hh
  ·exact hh
  ·rw [List.getD_eq_getElem?_getD,List.getElem?_eq_none hh] at h
   exact absurd rfl h
 have e:l[s.nx]?=some (tkAt l s):=tk_some hlt
 rw [List.take_add_one,wts_app,e]
 simp [wts]
theorem is_w {x:List UInt8} {s:PS} (h:isF l x s=true):Wt l (s.nx+1)=Wt l s.nx+(x.length+1):=by
 unfold isF at h
 simp only [Bool.and_eq_true,Bool.or_eq_true,decide_eq_true_eq] at h
 rw [Wt_step (by omega)]
 unfold wt
 rw [h.2]
theorem ident_w {s:PS} (h:(kAj l s).2.er=0):Wt l (kAj l s).2.nx=Wt l s.nx+((kAj l s).1.length+1):=by
 unfold kAj at h ⊢
 simp only at h ⊢
 by_cases hk:(tkAt l s).kind=1
 ·rw [if_pos hk] at h ⊢
  by_cases he:s.er=0
  ·rw [if_pos he] at h ⊢
   exact Wt_step (by omega)
  ·rw [if_neg he] at h
   exact absurd h he
 ·rw [if_neg hk] at h
  rw [if_neg (kFq (by decide))] at h
  exact absurd h (kFq (by decide))
theorem need_w {x:List UInt8} {s:PS} (h:(kPj l x s).er=0):Wt l (kPj l x s).nx=Wt l s.nx+(x.length+1):=by
 unfold kPj at h ⊢
 by_cases hx:isF l x s=true
 ·rw [if_pos hx] at h ⊢
  exact is_w hx
 ·rw [if_neg hx] at h
  exact absurd h (kFq (by decide))
theorem num_len {r:List UInt8} {v:Nat} (h:Real 2 r v) (hv:v≤64):(digF 3 v).length≤r.length:=by
 have key:∀m:_root_.Fin 65,(digF 3 m.val).length≤2∧(m.val≤9→(digF 3 m.val).length=1):=by decide
 have h2:=key ⟨v,by omega⟩
 simp only at h2
 have hne:=Real.ne h
 match r,hne with
 | [b],_ =>
  rcases h with⟨c,-,-,h4,-⟩ | ⟨-,-,hc⟩
  ·cases h4
  ·have:v≤9:=by
    simp only [kEw] at hc
    by_cases hd:kHz b=true
    ·rw [if_pos hd] at hc
     simp only [List.all_cons,List.all_nil,hd] at hc
     simp at hc
     split at hc
     ·cases hc
     ·have hh:=Except.ok.inj hc
      have:=(Prod.mk.inj hh).2
      rw [←this]
      simp only [kQw,List.foldl_cons,List.foldl_nil]
      unfold kHz at hd
      simp only [Bool.and_eq_true,decide_eq_true_eq] at hd
      omega
    ·rw [if_neg hd] at hc
     split at hc
     ·cases hc
     ·split at hc
      ·cases hc
      ·split at hc
       ·cases hc
       ·cases hc
   rw [h2.2 this]
   simp
 | b::c::r,_=>simp;omega
theorem number_w (hR:RealL l) {a z:Int} (_ha:0≤a) (hz:z≤64) {s:PS} (h:(kHq l a z s).2.er=0):Wt l s.nx+wt (nmT (kHq l a z s).1)≤Wt l (kHq l a z s).2.nx:=by
 unfold kHq at h ⊢
 simp only at h ⊢
 by_cases hk:(tkAt l s).kind=2
 ·rw [if_pos hk] at h ⊢
  by_cases hv:((tkAt l s).val:Int)<a∨z<(tkAt l s).val
  ·rw [if_pos hv] at h
   rw [if_neg (kFq (by decide))] at h
   exact absurd h (kFq (by decide))
  ·rw [if_neg hv] at h ⊢
   by_cases he:s.er=0
   ·rw [if_pos he] at h ⊢
    have hr:=hR _ (tk_mem (s:=s) (by omega)) (by omega)
    unfold RealT at hr
    rw [hk] at hr
    have:=num_len hr (by omega)
    have hs:Wt l (kBx s).nx=Wt l s.nx+wt (tkAt l s):=Wt_step (by omega)
    rw [hs]
    unfold wt nmT
    simp only [Int.toNat_natCast]
    omega
   ·rw [if_neg he] at h
    exact absurd h he
 ·rw [if_neg hk] at h
  rw [if_neg (kFq (by decide))] at h
  exact absurd h (kFq (by decide))
theorem first_w (s:PS):∀(xs:List (List UInt8)) (i j:Nat),kPk l s xs i=some j→Wt l (s.nx+1)=Wt l s.nx+((xs.getD (j-i) []).length+1)
 | [],i,j,h=>by cases h
 | x::xs,i,j,h=>by
  unfold kPk at h
  by_cases hx:isF l x s=true
  ·rw [if_pos hx] at h
   cases h
   rw [Nat.sub_self]
   exact is_w hx
  ·rw [if_neg hx] at h
   have h1:=first_w s xs (i+1) j h
   have h2:=first_le s xs (i+1) j h
   have e:j-i=(j-(i+1))+1:=by omega
   rw [h1,e]
   rfl
theorem sort_w {s:PS} (h:(kBz l s).2.er=0):Wt l (kBz l s).2.nx=Wt l s.nx+wt (kyT (kDj.getD (kBz l s).1.toNat [])):=by
 unfold kBz at h ⊢
 cases hf:kPk l s kDj 0 with
 | none =>
  rw [hf] at h
  exact absurd h (kFq (by decide))
 | some i =>
  have:=first_w s _ _ _ hf
  simp only [Nat.sub_zero] at this
  exact this
def ConsR (l:List PL.Tok) (of:Rd):Prop:=∀s n s',of s=some (n,s')→s'.er=0→s.er=0∧ownW n+Wt l s.nx≤Wt l s'.nx
theorem own_two {op:Int} (h1:12≤op) (h2:op<16) (a b:Nd):ownW (.mk op [] 0 0 0 [a,b])=ownW a+wt (kyT (conW op))+ownW b:=by
 rw [ownW,if_neg (by omega),if_neg (by omega),if_pos h2]
 simp only [ownsW,List.getD_cons_zero,List.getD_cons_succ]
theorem leftLoop_w {of:Rd} {c:Nat} (hc:c<4) (ho:ConsR l of):∀(k:Nat) (n0:Nd) (s:PS) (n:Nd) (s':PS),kIq l (opWd c) (12+c) of k n0 s=some (n,s')→s'.er=0→s.er=0∧ownW n+Wt l s.nx≤Wt l s'.nx+ownW n0
 | 0,_,_,_,_,h,_=>by cases h
 | k+1,n0,s,n,s',h,he=>by
  unfold kIq at h
  by_cases hx:isF l (opWd c) s=true
  ·rw [if_pos hx] at h
   simp only [Option.bind_eq_some_iff] at h
   obtain⟨⟨m,s2⟩,g1,g2⟩:=h
   obtain⟨e2,r2⟩:=leftLoop_w hc ho k _ s2 n s' g2 he
   obtain⟨-,r1⟩:=ho _ m s2 g1 e2
   have h0:=is_w hx
   have hs:Wt l (kBx s).nx=Wt l (s.nx+1):=rfl
   simp only at r2
   rw [own_two (by omega) (by omega)] at r2
   have e:conW (12+(c:Int))=opWd c:=con_nat
   rw [e] at r2
   have:wt (kyT (opWd c))=(opWd c).length+1:=rfl
   exact⟨kQx hx,by omega⟩
  ·rw [if_neg hx] at h
   simp only [Option.some.injEq,Prod.mk.injEq] at h
   obtain⟨rfl,rfl⟩:=h
   exact⟨he,by omega⟩
theorem leftP_w {of:Rd} {c:Nat} (hc:c<4) (ho:ConsR l of):ConsR l (leftP l (opWd c) (12+c) of):=by
 intro s n s' h he
 unfold leftP at h
 simp only [Option.bind_eq_some_iff] at h
 obtain⟨⟨m,s1⟩,h1,h2⟩:=h
 obtain⟨e1,r1⟩:=leftLoop_w hc ho _ m s1 n s' h2 he
 obtain⟨e0,r0⟩:=ho s m s1 h1 e1
 exact⟨e0,by omega⟩
def ownA (acc:List Nd):Nat:=(acc.map fun n=>ownW n+8).sum
theorem ownA_app (a b:List Nd):ownA (a++b)=ownA a+ownA b:=by simp [ownA]
theorem implFold_w:∀(a:List Nd),a≠[]→ownW (kJz a)+8=ownA a
 | [],h=>absurd rfl h
 | [x],_=>by simp [ownA,kJz]
 | x::y::r,_=>by
  have ih:=implFold_w (y::r) (by simp)
  have e:kJz (x::y::r)=.mk 14 [] 0 0 0 [x,kJz (y::r)]:=rfl
  rw [e,own_two (by decide) (by decide)]
  have h1:ownA (x::y::r)=(ownW x+8)+ownA (y::r):=by simp [ownA]
  have h2:wt (kyT (conW 14))=8:=rfl
  omega
theorem implLoop_w {of:Rd} (ho:ConsR l of):∀(k:Nat) (acc:List Nd) (s:PS) (r:List Nd) (s':PS),acc≠[]→kJq l of k acc s=some (r,s')→s'.er=0→s.er=0∧r≠[]∧ownA r+Wt l s.nx≤Wt l s'.nx+ownA acc
 | 0,_,_,_,_,_,h,_=>by cases h
 | k+1,acc,s,r,s',hne,h,he=>by
  unfold kJq at h
  by_cases hx:isF l [105,109,112,108,105,101,115] s=true
  ·rw [if_pos hx] at h
   simp only [Option.bind_eq_some_iff] at h
   obtain⟨⟨m,s2⟩,g1,g2⟩:=h
   obtain⟨e2,r0,r2⟩:=implLoop_w ho k (acc++[m]) s2 r s' (by simp) g2 he
   obtain⟨-,r1⟩:=ho _ m s2 g1 e2
   have h0:=is_w hx
   have hs:Wt l (kBx s).nx=Wt l (s.nx+1):=rfl
   rw [ownA_app] at r2
   have:ownA [m]=ownW m+8:=by simp [ownA]
   simp only [List.length_cons,List.length_nil] at h0
   exact⟨kQx hx,r0,by omega⟩
  ·rw [if_neg hx] at h
   simp only [Option.some.injEq,Prod.mk.injEq] at h
   obtain⟨rfl,rfl⟩:=h
   exact⟨he,hne,by omega⟩
theorem formula_w {of:Rd} (ho:ConsR l of):ConsR l (kLx l of):=by
 have hors:ConsR l (orsP l of):=leftP_w (c:=1) (by decide) (leftP_w (c:=0) (by decide) ho)
 have himp:ConsR l (kMj l of):=by
  intro s n s' h he
  unfold kMj at h
  simp only [Option.bind_eq_some_iff,Option.map_eq_some_iff] at h
  obtain⟨⟨m,s1⟩,h1,⟨a,s2⟩,h2,h3⟩:=h
  simp only [Prod.mk.injEq] at h3
  obtain⟨rfl,rfl⟩:=h3
  obtain⟨e1,r0,r1⟩:=implLoop_w hors _ [m] s1 a s2 (by simp) h2 he
  obtain⟨e0,r2⟩:=hors s m s1 h1 e1
  have h4:=implFold_w a r0
  have:ownA [m]=ownW m+8:=by simp [ownA]
  exact⟨e0,by omega⟩
 exact leftP_w (c:=3) (by decide) himp
end
end Go.Proofs.YtkhbpebpljdifaaGreatDoor
namespace Go.Proofs.YtkhbpebpljdifaaGreatDoor
open Go.PL
section
variable {l:List PL.Tok} (hR:RealL l)
theorem level_w {of:Rd} {s:PS} {n:Nd} {s':PS} (h:levelP of s=some (n,s')) (he:s'.er=0):s.er=0∧∃s2,of ⟨s.nx+1,0,s.dp+1⟩=some (n,s2)∧s2.er=0∧s'.nx=s2.nx:=by
 unfold levelP at h
 simp only at h
 by_cases h1:s.dp=256
 ·rw [if_pos h1] at h
  rw [if_neg (kFq (by decide))] at h
  simp only [Option.some.injEq,Prod.mk.injEq] at h
  rw [←h.2] at he
  exact absurd he (kFq (by decide))
 ·rw [if_neg h1] at h
  by_cases h2:s.er=0
  ·rw [if_pos h2] at h
   simp only [Option.map_eq_some_iff] at h
   obtain⟨⟨m,s2⟩,g1,g2⟩:=h
   simp only [Prod.mk.injEq] at g2
   obtain⟨rfl,rfl⟩:=g2
   have he2:s2.er=0:=he
   have e:({ nx:=s.nx+1,er:=s.er,dp:=s.dp+1 }:PS)=⟨s.nx+1,0,s.dp+1⟩:=by rw [h2]
   exact⟨h2,s2,by rw [←e];exact g1,he2,rfl⟩
  ·rw [if_neg h2] at h
   simp only [Option.some.injEq,Prod.mk.injEq] at h
   rw [←h.2] at he
   exact absurd he h2
theorem arg_w:∀(ys:List (List UInt8)) ,wts (argT ys)≤(ys.map fun y=>y.length+3).sum
 | []=>by simp [argT,kKz]
 | [x]=>by simp [argT,kDw,kKz,wt,idT]
 | x::y::r=>by
  have:=arg_w (y::r)
  simp only [argT,kDw,List.map_cons,List.sum_cons] at this ⊢
  have h1:wt (idT x)=x.length+1:=rfl
  have h2:wt (puT 44)=2:=rfl
  omega
theorem callLoop_w:∀(k:Nat) (xs:List (List UInt8)) (s:PS) (r:List (List UInt8)) (s':PS),kJk l k xs s=some (r,s')→s'.er=0→∃ys,r=xs++ys∧(ys.map fun y=>y.length+3).sum+Wt l s.nx≤Wt l s'.nx
 | 0,_,_,_,_,h,_=>by cases h
 | k+1,xs,s,r,s',h,he=>by
  simp only [kJk] at h
  by_cases h0:s.er=0
  ·rw [if_pos h0] at h
   by_cases h1:(tkAt l s).kind=1∧xs.length=17
   ·rw [if_pos h1] at h
    cases h
    exact absurd he (kFq (by decide))
   ·rw [if_neg h1] at h
    by_cases h2:isF l [44] (kAj l s).2=true
    ·rw [if_pos h2] at h
     obtain⟨ys,rfl,hy⟩:=callLoop_w k _ _ r s' h he
     have hi:=ident_w (l:=l) (s:=s) (kQx h2)
     have hc:=is_w h2
     have hs:Wt l (kBx (kAj l s).2).nx=Wt l ((kAj l s).2.nx+1):=rfl
     refine⟨(kAj l s).1::ys,by simp,?_⟩
     simp only [List.map_cons,List.sum_cons,List.length_cons,List.length_nil] at hc ⊢
     omega
    ·rw [if_neg h2] at h
     cases h
     have hi:=ident_w (l:=l) (s:=s) (kUk he)
     have hc:=need_w he
     refine⟨[(kAj l s).1],rfl,?_⟩
     simp only [List.map_cons,List.map_nil,List.sum_cons,List.sum_nil,List.length_cons,List.length_nil] at hc ⊢
     omega
  ·rw [if_neg h0] at h
   cases h
   exact absurd he h0
theorem callLoop_ne:∀(k:Nat) (xs:List (List UInt8)) (s:PS) (r:List (List UInt8)) (s':PS),kJk l k xs s=some (r,s')→s'.er=0→xs.length<r.length
 | 0,_,_,_,_,h,_=>by cases h
 | k+1,xs,s,r,s',h,he=>by
  simp only [kJk] at h
  by_cases h0:s.er=0
  ·rw [if_pos h0] at h
   by_cases h1:(tkAt l s).kind=1∧xs.length=17
   ·rw [if_pos h1] at h
    cases h
    exact absurd he (kFq (by decide))
   ·rw [if_neg h1] at h
    by_cases h2:isF l [44] (kAj l s).2=true
    ·rw [if_pos h2] at h
     have:=callLoop_ne k _ _ r s' h he
     simp at this
     omega
    ·rw [if_neg h2] at h
     cases h
     simp
  ·rw [if_neg h0] at h
   cases h
   exact absurd he h0
theorem call_w {f:List UInt8} {s:PS} {n:Nd} {s':PS} (h1:isF l [40] s=true) (h:callP l f s=some (n,s')) (he:s'.er=0):ownW n+Wt l s.nx≤Wt l s'.nx+(f.length+1):=by
 have hp:=is_w h1
 have h40:wt (puT 40)=2:=rfl
 have h41:wt (puT 41)=2:=rfl
 unfold callP at h
 simp only at h
 have hs:Wt l (kBx s).nx=Wt l (s.nx+1):=rfl
 simp only [List.length_cons,List.length_nil] at hp
 by_cases h1:isF l [41] (kBx s)=true
 ·rw [if_pos h1] at h
  cases h
  have hq:=is_w h1
  have hs2:Wt l (kBx (kBx s)).nx=Wt l ((kBx s).nx+1):=rfl
  simp only [List.length_cons,List.length_nil] at hq
  rw [ownW,if_pos (by decide)]
  simp only [kIk,Int.reduceEq,Int.reduceLT,if_false,List.getD_cons_zero,List.tail_cons,argT,List.nil_append,kDw,kKz]
  have:wt (idT f)=f.length+1:=rfl
  omega
 ·rw [if_neg h1] at h
  simp only [Option.map_eq_some_iff] at h
  obtain⟨⟨xs,s2⟩,g1,g2⟩:=h
  simp only [Prod.mk.injEq] at g2
  obtain⟨rfl,rfl⟩:=g2
  obtain⟨ys,rfl,hy⟩:=callLoop_w _ [f] _ xs s2 g1 he
  rw [ownW,if_pos (by decide)]
  simp only [List.singleton_append,kIk,Int.reduceEq,Int.reduceLT,if_false,List.getD_cons_zero,List.tail_cons,kDw,wts_app,kKz]
  have:=arg_w ys
  have:wt (idT f)=f.length+1:=rfl
  have hz:ys≠[]:=by
   have hc:=callLoop_ne _ [f] _ _ _ g1 he
   intro h0
   subst h0
   simp at hc
  have hpos:2≤(ys.map fun y=>y.length+3).sum-wts (argT ys):=by
   have key:∀zs:List (List UInt8),zs≠[]→wts (argT zs)+2≤(zs.map fun y=>y.length+3).sum:=by
    intro zs
    induction zs with
    | nil=>intro h;exact absurd rfl h
    | cons x zs ih =>
     intro _
     cases zs with
     | nil=>simp [argT,kDw,kKz,wt,idT]
     | cons y r =>
      have:=ih (by simp)
      simp only [argT,kDw,List.map_cons,List.sum_cons] at this ⊢
      have h1:wt (idT x)=x.length+1:=rfl
      have h2:wt (puT 44)=2:=rfl
      omega
   have:=key ys hz
   omega
  omega
include hR
theorem size_w {s:PS} (h1:isF l [115,105,122,101] s=true) (he:(sizeP l s).2.er=0):ownW (sizeP l s).1+Wt l s.nx≤Wt l (sizeP l s).2.nx:=by
 have hp:=is_w h1
 unfold sizeP at he ⊢
 simp only at he ⊢
 obtain⟨e1,b1,b2,d1⟩:=number_good he
 have e2:=kUk e1
 obtain⟨e3,c1,c2,d2⟩:=number_good e2
 have e4:=kUk e3
 have w1:=number_w hR (by decide) (by omega) he
 have w2:=need_w e1
 have w3:=number_w hR (by decide) (by decide) e2
 have w4:=need_w e3
 have w5:=ident_w e4
 have hs:Wt l (kBx s).nx=Wt l (s.nx+1):=rfl
 rw [ownW,if_pos (by decide)]
 simp only [kIk,Int.reduceEq,Int.reduceLT,if_false,if_true,List.getD_cons_zero,kDw,kKz]
 have k1:wt (kyT [115,105,122,101])=5:=rfl
 have k2:wt (kyT [109,111,100])=4:=rfl
 have k3:wt (kyT [105,115])=3:=rfl
 have k4:∀x,wt (idT x)=x.length+1:=fun _=>rfl
 simp only [k1,k2,k3,k4,List.length_cons,List.length_nil] at *
 omega
omit hR in
theorem one_w {s:PS} (h1:isF l [111,110,101] s=true) (he:(oneP l s).2.er=0):ownW (oneP l s).1+Wt l s.nx≤Wt l (oneP l s).2.nx:=by
 have hp:=is_w h1
 unfold oneP at he ⊢
 simp only at he ⊢
 have w5:=ident_w he
 have hs:Wt l (kBx s).nx=Wt l (s.nx+1):=rfl
 rw [ownW,if_pos (by decide)]
 simp only [kIk,Int.reduceEq,Int.reduceLT,if_false,if_true,List.getD_cons_zero,kDw,kKz]
 have k1:wt (kyT [111,110,101])=4:=rfl
 have k4:∀x,wt (idT x)=x.length+1:=fun _=>rfl
 simp only [k1,k4,List.length_cons,List.length_nil] at *
 omega
theorem atom_w:ConsR l (atomP l):=by
 intro s n s' h he
 unfold atomP at h
 simp only at h
 have k4:∀x,wt (idT x)=x.length+1:=fun _=>rfl
 by_cases h1:isF l [40] (kAj l s).2=true
 ·rw [if_pos h1] at h
  have w:=ident_w (kQx h1)
  have:=call_w h1 h he
  exact⟨(kNk hR (kQx h1)).1,by omega⟩
 ·rw [if_neg h1] at h
  by_cases h2:isF l [105,115] (kAj l s).2=true
  ·rw [if_pos h2] at h
   have w:=ident_w (kQx h2)
   have w0:=is_w h2
   cases h
   have w1:=number_w hR (by decide) (by decide) he
   have hs:Wt l (kBx (kAj l s).2).nx=Wt l ((kAj l s).2.nx+1):=rfl
   refine⟨(kNk hR (kQx h2)).1,?_⟩
   rw [ownW,if_pos (by decide)]
   simp only [kIk,Int.reduceEq,Int.reduceLT,if_false,if_true,List.getD_cons_zero,kDw,kKz]
   have k1:wt (kyT [105,115])=3:=rfl
   simp only [k1,k4,List.length_cons,List.length_nil] at *
   omega
  ·rw [if_neg h2] at h
   cases hf:kPk l (kAj l s).2 kQz 0 with
   | none =>
    rw [hf] at h
    cases h
    exact absurd he (kFq (by decide))
   | some i =>
    rw [hf] at h
    cases h
    obtain⟨-,h5,h6⟩:=first_le _ _ _ _ hf
    have h5':i<5:=by simpa [kQz] using h5
    have w:=ident_w h6
    have w0:=first_w _ _ _ _ hf
    have w1:=ident_w he
    have hs:Wt l (kBx (kAj l s).2).nx=Wt l ((kAj l s).2.nx+1):=rfl
    refine⟨(kNk hR h6).1,?_⟩
    rw [ownW,if_pos (by omega)]
    unfold kIk
    rw [if_neg (by omega),if_neg (by omega),if_pos (by omega),show ((2:Int)+i-2).toNat=i by omega]
    simp only [List.getD_cons_zero,List.getD_cons_succ,kDw,kKz,k4,Nat.sub_zero] at *
    have hrel:wt (relT i)=(kQz.getD i []).length+1:=by
     have hi:i=0∨i=1∨i=2∨i=3∨i=4:=by omega
     rcases hi with rfl | rfl | rfl | rfl | rfl<;>rfl
    omega
end
end Go.Proofs.YtkhbpebpljdifaaGreatDoor
namespace Go.Proofs.YtkhbpebpljdifaaGreatDoor
open Go.PL
section
variable {l:List PL.Tok} (hR:RealL l)
include hR
theorem operand_w:∀d:Nat,ConsR l (kCj l d)
 | 0=>by intro s n s' h;cases h
 | d+1=>by
  have ih:=operand_w d
  have hfm:=formula_w ih
  intro s n s' h he
  unfold kCj at h
  simp only at h
  by_cases hk:((tkAt l s).kind=3∨(tkAt l s).kind=4)∧s.er=0
  ·rw [if_pos hk] at h
   have his:∀{x:List UInt8},(tkAt l s).text=x→isF l x s=true:=by
    intro x hx
    unfold isF
    simp only [Bool.and_eq_true,Bool.or_eq_true,decide_eq_true_eq]
    exact⟨⟨hk.2,hk.1⟩,hx⟩
   by_cases t1:(tkAt l s).text=[116,114,117,101]
   ·rw [if_pos t1] at h
    cases h
    have w:=is_w (his t1)
    have hs:Wt l (kBx s).nx=Wt l (s.nx+1):=rfl
    refine⟨hk.2,?_⟩
    rw [ownW,if_pos (by decide)]
    have:wts (kIk 0 [] 0 0)=5:=rfl
    simp only [List.length_cons,List.length_nil] at w
    omega
   rw [if_neg t1] at h
   by_cases t2:(tkAt l s).text=[102,97,108,115,101]
   ·rw [if_pos t2] at h
    cases h
    have w:=is_w (his t2)
    have hs:Wt l (kBx s).nx=Wt l (s.nx+1):=rfl
    refine⟨hk.2,?_⟩
    rw [ownW,if_pos (by decide)]
    have:wts (kIk 1 [] 0 0)=6:=rfl
    simp only [List.length_cons,List.length_nil] at w
    omega
   rw [if_neg t2] at h
   by_cases t3:(tkAt l s).text=[115,105,122,101]
   ·rw [if_pos t3] at h
    simp only [Option.some.injEq] at h
    have:=size_w hR (his t3) (by rw [h];exact he)
    rw [h] at this
    exact⟨hk.2,this⟩
   rw [if_neg t3] at h
   by_cases t4:(tkAt l s).text=[111,110,101]
   ·rw [if_pos t4] at h
    simp only [Option.some.injEq] at h
    have:=one_w (his t4) (by rw [h];exact he)
    rw [h] at this
    exact⟨hk.2,this⟩
   rw [if_neg t4] at h
   have bind:∀{op:Int},(op=16∨op=17)→isF l (quW op) s=true→bindP l op (kLx l (kCj l d)) s=some (n,s')→s.er=0∧ownW n+Wt l s.nx≤Wt l s'.nx:=by
    intro op hop hq h
    obtain⟨h1,s2,h3,h4,h5⟩:=level_w h he
    simp only [Option.map_eq_some_iff] at h3
    obtain⟨⟨m,s3⟩,g1,g2⟩:=h3
    simp only [Prod.mk.injEq] at g2
    obtain⟨rfl,rfl⟩:=g2
    obtain⟨e1,r1⟩:=hfm _ m s3 g1 h4
    have e2:=kUk e1
    obtain⟨e3,hreal,-⟩:=kNk hR e2
    have w1:=need_w e1
    have w2:=ident_w e2
    have w3:=sort_w e3
    have w0:=is_w hq
    rw [h5]
    refine⟨h1,?_⟩
    rw [ownW,if_neg (by omega),if_neg (by omega),if_neg (by omega)]
    simp only [ownsW,List.getD_cons_zero,List.length_cons,List.length_nil] at *
    have k1:wt (kyT (quW op))=(quW op).length+1:=rfl
    have k4:∀x,wt (idT x)=x.length+1:=fun _=>rfl
    rw [k4,k1]
    omega
   by_cases t5:(tkAt l s).text=[110,111,116]
   ·rw [if_pos t5] at h
    obtain⟨h1,s2,h3,h4,h5⟩:=level_w h he
    simp only [Option.map_eq_some_iff] at h3
    obtain⟨⟨m,s3⟩,g1,g2⟩:=h3
    simp only [Prod.mk.injEq] at g2
    obtain⟨rfl,rfl⟩:=g2
    obtain⟨e1,r1⟩:=ih _ m s3 g1 h4
    have w0:=is_w (his t5)
    rw [h5]
    refine⟨h1,?_⟩
    rw [ownW,if_neg (by omega),if_pos rfl]
    simp only [ownsW,List.getD_cons_zero,List.length_cons,List.length_nil] at *
    omega
   rw [if_neg t5] at h
   by_cases t6:(tkAt l s).text=[115,111,109,101]
   ·rw [if_pos t6] at h
    exact bind (Or.inl rfl) (his t6) h
   rw [if_neg t6] at h
   by_cases t7:(tkAt l s).text=[101,118,101,114,121]
   ·rw [if_pos t7] at h
    exact bind (Or.inr rfl) (his t7) h
   rw [if_neg t7] at h
   by_cases t8:(tkAt l s).text=[40]
   ·rw [if_pos t8] at h
    obtain⟨h1,s2,h3,h4,h5⟩:=level_w h he
    simp only [Option.map_eq_some_iff] at h3
    obtain⟨⟨m,s3⟩,g1,g2⟩:=h3
    simp only [Prod.mk.injEq] at g2
    obtain⟨rfl,rfl⟩:=g2
    obtain⟨e1,r1⟩:=hfm _ m s3 g1 (kUk h4)
    have w0:=is_w (his t8)
    have w1:=need_w h4
    rw [h5]
    refine⟨h1,?_⟩
    simp only [List.length_cons,List.length_nil] at *
    omega
   rw [if_neg t8] at h
   exact atom_w hR s n s' h he
  ·rw [if_neg hk] at h
   exact atom_w hR s n s' h he
omit hR in
theorem var_w:∀(f:List (List UInt8×Int)),f≠[]→wts ((varB f).map Prod.snd)+2=(f.map fun v=>wt (kyT (kDj.getD v.2.toNat []))+wt (idT v.1)+2).sum
 | [],h=>absurd rfl h
 | [v],_=>by simp [varB,kDw,kKz]
 | v::u::r,_=>by
  have:=var_w (u::r) (by simp)
  simp only [varB,List.map_cons,kDw,List.sum_cons] at this ⊢
  have h2:wt (puT 44)=2:=rfl
  omega
theorem freeLoop_w:∀(k:Nat) (out:List (List UInt8×Int)) (s:PS) (r:List (List UInt8×Int)) (s':PS),kNz l k out s=some (r,s')→s'.er=0→∃f,r=out++f∧f≠[]∧(f.map fun v=>wt (kyT (kDj.getD v.2.toNat []))+wt (idT v.1)+2).sum+Wt l s.nx≤Wt l s'.nx
 | 0,_,_,_,_,h,_=>by cases h
 | k+1,out,s,r,s',h,he=>by
  simp only [kNz] at h
  by_cases h0:s.er=0
  ·rw [if_pos h0] at h
   generalize hs2:(if (tkAt l (kBz l s).2).kind=1 then (if out.length=8 then kCk 8 (kBz l s).2 else if (out.any fun o=>decide (o.1=(tkAt l (kBz l s).2).text))=true then kCk 7 (kBz l s).2 else (kBz l s).2) else (kBz l s).2)=s2 at h
   have key:(kAj l s2).2.er=0→wt (kyT (kDj.getD (kBz l s).1.toNat []))+wt (idT (kAj l s2).1)+Wt l s.nx=Wt l (kAj l s2).2.nx:=by
    intro hi
    have w:=ident_w hi
    have e2:=(kNk hR hi).1
    have hnx:s2.nx=(kBz l s).2.nx:=by
     rw [←hs2]
     repeat' split
     all_goals first | rfl | exact kPw _ _
    have e3:(kBz l s).2.er=0:=by
     by_cases hh:(kBz l s).2.er=0
     ·exact hh
     ·exfalso
      have:s2.er≠0:=by
       rw [←hs2]
       repeat' split
       all_goals first | exact hh | exact kFq (by decide)
      exact this e2
    have w2:=sort_w e3
    have k4:∀x,wt (idT x)=x.length+1:=fun _=>rfl
    rw [k4]
    rw [hnx] at w
    omega
   by_cases h2:isF l [44] (kAj l s2).2=true
   ·rw [if_pos h2] at h
    obtain⟨f,rfl,hf,hw⟩:=freeLoop_w k _ _ r s' h he
    have w0:=is_w h2
    have w1:=key (kQx h2)
    have hs:Wt l (kBx (kAj l s2).2).nx=Wt l ((kAj l s2).2.nx+1):=rfl
    refine⟨((kAj l s2).1,(kBz l s).1)::f,by simp,by simp,?_⟩
    simp only [List.map_cons,List.sum_cons,List.length_cons,List.length_nil] at w0 ⊢
    omega
   ·rw [if_neg h2] at h
    cases h
    have w0:=need_w he
    have w1:=key (kUk he)
    refine⟨[((kAj l s2).1,(kBz l s).1)],rfl,by simp,?_⟩
    simp only [List.map_cons,List.map_nil,List.sum_cons,List.sum_nil,List.length_cons,List.length_nil] at w0 ⊢
    omega
  ·rw [if_neg h0] at h
   cases h
   exact absurd he h0
theorem free_w {s:PS} {r:List (List UInt8×Int)} {s':PS} (h:freeP l s=some (r,s')) (he:s'.er=0):wts ((freeB r).map Prod.snd)+Wt l s.nx≤Wt l s'.nx:=by
 unfold freeP at h
 by_cases hx:isF l [102,105,110,100] s=true
 ·rw [if_pos hx] at h
  obtain⟨f,rfl,hf,hw⟩:=freeLoop_w hR _ [] (kBx s) r s' h he
  have w0:=is_w hx
  have hs:Wt l (kBx s).nx=Wt l (s.nx+1):=rfl
  cases r with
  | nil=>exact absurd rfl hf
  | cons v f =>
   have hv:=var_w (v::f) (by simp)
   unfold freeB
   simp only [List.map_cons,List.map_append,List.map_nil,kDw,wts_app,kKz]
   have h1:wt (kyT [102,105,110,100])=5:=rfl
   have h2:wt (puT 58)=2:=rfl
   simp only [List.length_cons,List.length_nil,List.map_cons] at w0 hv hw
   omega
 ·rw [if_neg hx] at h
  cases h
  simp [freeB,kKz]
omit hR in
theorem own_pos:∀(k:Nat) (nd:Nd),kCz nd≤k→okF nd→2*kCz nd≤ownW nd
 | 0,nd,hn,_=>by have:=kRw nd;omega
 | k+1,.mk op names so n m ls,hn,hok=>by
  unfold okF at hok
  obtain⟨hnm,hc,hs⟩:=hok
  unfold kCz at hn ⊢
  rw [ownW]
  have k4:∀x,wt (idT x)=x.length+1:=fun _=>rfl
  have atom:op<11→ls=[]→2*(1+kBk ls)≤wts (kIk op names n m):=by
   intro h1 h2
   subst h2
   have hk:∀x,1≤wt x:=fun x=>by unfold wt;omega
   have h2:2≤wts (kIk op names n m):=by
    unfold kIk
    have e1:wt (kyT [116,114,117,101])=5:=rfl
    have e2:wt (kyT [102,97,108,115,101])=6:=rfl
    have e3:wt (kyT [105,115])=3:=rfl
    have e4:wt (kyT [115,105,122,101])=5:=rfl
    have e5:wt (kyT [111,110,101])=4:=rfl
    have e6:wt (puT 40)=2:=rfl
    by_cases g0:op=0
    ·rw [if_pos g0];simp only [kDw,kKz];omega
    rw [if_neg g0]
    by_cases g1:op=1
    ·rw [if_pos g1];simp only [kDw,kKz];omega
    rw [if_neg g1]
    by_cases g2:op<7
    ·rw [if_pos g2];simp only [kDw,kKz];have:=hk (idT (names.getD 0 []));have:=hk (idT (names.getD 1 []));omega
    rw [if_neg g2]
    by_cases g3:op=7
    ·rw [if_pos g3];simp only [kDw,kKz];omega
    rw [if_neg g3]
    by_cases g4:op=8
    ·rw [if_pos g4];simp only [kDw,kKz];omega
    rw [if_neg g4]
    by_cases g5:op=9
    ·rw [if_pos g5];simp only [kDw,kKz];omega
    rw [if_neg g5];simp only [kDw];omega
   simp only [kBk]
   omega
  rcases hc with⟨h1,-,h2,-⟩ | ⟨-,h1,-,h2,-⟩ | ⟨h1,-,h2,-⟩ | ⟨h1,-,h2,-⟩ | ⟨h1,-,h2,-⟩ | ⟨h1,-,-,h2,-⟩ | ⟨rfl,-,h3,-⟩ | ⟨h1,h2,-,h3,-⟩ | ⟨h1,h2,-,h3,-⟩
  ·rw [if_pos (by omega)];exact atom (by omega) h2
  ·rw [if_pos (by omega)];exact atom (by omega) h2
  ·rw [if_pos (by omega)];exact atom (by omega) h2
  ·rw [if_pos (by omega)];exact atom (by omega) h2
  ·rw [if_pos (by omega)];exact atom (by omega) h2
  ·rw [if_pos (by omega)];exact atom (by omega) h2
  ·match ls,h3 with
   | [a],_ =>
    unfold oksF at hs
    simp only [kBk] at hn ⊢
    have:=own_pos k a (by omega) hs.1
    simp only [ownsW,List.getD_cons_zero]
    simp
    omega
  ·match ls,h3 with
   | [a,b],_ =>
    unfold oksF oksF at hs
    simp only [kBk] at hn ⊢
    have:=own_pos k a (by omega) hs.1
    have:=own_pos k b (by omega) hs.2.1
    have hw:2≤wt (kyT (conW op)):=by
     unfold conW opWd
     split<;>decide
    rw [if_neg (by omega),if_neg (by omega),if_pos h2]
    simp only [ownsW,List.getD_cons_zero,List.getD_cons_succ]
    omega
  ·match ls,h3 with
   | [a],_ =>
    unfold oksF at hs
    simp only [kBk] at hn ⊢
    have:=own_pos k a (by omega) hs.1
    rw [if_neg (by omega),if_neg (by omega),if_neg (by omega)]
    simp only [ownsW,List.getD_cons_zero]
    omega
omit hR in
theorem Wt_le (i:Nat):Wt l i≤wts l:=by
 unfold Wt
 conv=>rhs;rw [←List.take_append_drop i l]
 rw [wts_app]
 omega
theorem pr_len {q:Qn} {s:PS} (h:kFw l=some (q,s)) (he:(endF l q s).er=0):wts (prQ q)≤3*wts l:=by
 obtain⟨-,hv,hok,-,-⟩:=query_good hR h he
 unfold kFw at h
 simp only [Option.bind_eq_some_iff,Option.map_eq_some_iff] at h
 obtain⟨⟨f,s1⟩,h1,⟨n,s2⟩,h2,h3⟩:=h
 simp only [Prod.mk.injEq] at h3
 obtain⟨rfl,rfl⟩:=h3
 simp only at h2
 have hs2:s2.er=0:=by
  unfold endF at he
  simp only at he
  by_cases hk:(tkAt l s2).kind=0
  ·rw [if_pos hk] at he
   by_cases h0:s2.er=0
   ·exact h0
   ·rw [if_neg h0] at he;exact absurd he h0
  ·rw [if_neg hk,if_neg (kFq (by decide))] at he
   exact absurd he (kFq (by decide))
 obtain⟨e1,r1⟩:=formula_w (operand_w hR 257) s1 n s2 h2 hs2
 have r0:=free_w hR h1 e1
 have hp:=pr_own _ n (Nat.le_refl _) true
 have ho:=own_pos _ n (Nat.le_refl _) hok
 have hW:=Wt_le (l:=l) s2.nx
 unfold prQ
 rw [wts_app]
 simp only
 omega
end
end Go.Proofs.YtkhbpebpljdifaaGreatDoor
namespace Go.Proofs.YtkhbpebpljdifaaGreatDoor
open Go.RowKit Go.PL Go.Maps
mutual
def kPx:Nd→Nd→Bool
 | .mk op xs so n m l,.mk op' xs' so' n' m' l'=>decide (op=op')&&decide (so=so')&&decide (n=n')&&decide (m=m')&&decide (xs=xs')&&samesF l l'
def samesF:List Nd→List Nd→Bool
 | [],[]=>true
 | x::r,y::t=>kPx x y&&samesF r t
 | [],_::_=>false
 | _::_,[]=>false
end
mutual
theorem sameF_eq:∀(a b:Nd),kPx a b=true↔a=b
 | .mk op xs so n m l,.mk op' xs' so' n' m' l'=>by
  unfold kPx
  simp only [Bool.and_eq_true,decide_eq_true_eq,samesF_eq l l',Nd.mk.injEq]
  constructor
  ·rintro⟨⟨⟨⟨⟨h1,h2⟩,h3⟩,h4⟩,h5⟩,h6⟩;exact⟨h1,h5,h2,h3,h4,h6⟩
  ·rintro⟨h1,h5,h2,h3,h4,h6⟩;exact⟨⟨⟨⟨⟨h1,h2⟩,h3⟩,h4⟩,h5⟩,h6⟩
theorem samesF_eq:∀(a b:List Nd),samesF a b=true↔a=b
 | [],[]=>by simp [samesF]
 | x::r,y::t=>by
  unfold samesF
  simp only [Bool.and_eq_true,sameF_eq x y,samesF_eq r t,List.cons.injEq]
 | [],_::_=>by simp [samesF]
 | _::_,[]=>by simp [samesF]
end
theorem names_calls (xs ys:List (List UInt8)) (v v':Value) (P P':Nat→Prop) (w:World) (hl:xs.length≤10000000) (_hl':ys.length≤10000000) (h:SlP w P v xs.length (xs.map sV)) (h':SlP w P' v' ys.length (ys.map sV)):Calls Tryz.prog 60 #[v,v'] w fun e w'=>e=.returned (.bool (decide (xs=ys)))∧Upto [] w w':=by
 obtain⟨a,c,rfl,hg⟩:=h.get
 obtain⟨a',c',rfl,hg'⟩:=h'.get
 have HG:Hid (∀i x,xs[i]?=some x→∃g o,a=some ⟨g,o,none⟩∧w.cell? ⟨g,o+i,none⟩=some (.string ⟨x.toArray⟩)):=Lib.hid (fun i x hi=>hg i _ (by rw [List.getElem?_map,hi];rfl))
 have HG':Hid (∀i x,ys[i]?=some x→∃g o,a'=some ⟨g,o,none⟩∧w.cell? ⟨g,o+i,none⟩=some (.string ⟨x.toArray⟩)):=Lib.hid (fun i x hi=>hg' i _ (by rw [List.getElem?_map,hi];rfl))
 have HU0:=Lib.hid (Upto.refl [] w)
 clear h h' hg hg'
 by_cases hne:xs.length≠ys.length
 ·have HF:Hid (decide (xs=ys)=false):=Lib.hid (by simp;intro e;exact hne (by rw [e]))
  rw [HF.out]
  generalize hA:xs.length=A at *
  generalize hB:ys.length=B at *
  have q1:((A:Int)==(B:Int))=false:=by rw [beq_eq_false_iff_ne];omega
  have q2:((A:Int) != (B:Int))=true:=by rw [bne,q1];rfl
  clear hne HF hA hB
  go_enter Tryz.func60,Tryz.ntmps60
  go_wp2_with fail
  go_ret
  exact⟨rfl,HU0.out⟩
 have hne:=Decidable.not_not.1 hne
 obtain⟨ll,hll⟩:∃ll,xs.length=ll:=⟨_,rfl⟩
 have hll':ys.length=ll:=hne▸hll
 have HLL:=Lib.hid (And.intro hll hll')
 rw [hll,hll']
 have hL0:(0:Int)≤ll:=by omega
 have hL1:(ll:Int)≤10000000:=by omega
 clear hll hll' hl _hl' hne
 obtain⟨R,hR⟩:∃R,Hid (decide (xs=ys)=R):=⟨_,Lib.hid rfl⟩
 rw [hR.out]
 go_enter Tryz.func60,Tryz.ntmps60
 go_wp2_with fail
 go_loopw [13] (fun i wr=>∃j:Nat,j≤ll∧i=.int .i64 j∧Hid (∀q,q<j→xs[q]?=ys[q]?)∧Hid (Upto [] w wr)) (fun i _=>ll-(intOf i).toNat)
 case atStart=>exact⟨0,by omega,rfl,Lib.hid (fun q hq=>by omega),Lib.hid (Upto.refl _ _)⟩
 case round =>
  obtain⟨j,hj,rfl,HE,HU⟩:=hrel
  have hj0:(0:Int)≤j:=by omega
  rcases Nat.lt_or_ge j ll with hlt | hge
  ·obtain⟨x,hx⟩:∃x,xs[j]?=some x:=⟨_,List.getElem?_eq_getElem (by have:=HLL.out.1;omega)⟩
   obtain⟨y,hy⟩:∃y,ys[j]?=some y:=⟨_,List.getElem?_eq_getElem (by have:=HLL.out.2;omega)⟩
   obtain⟨g,o,rfl,c0⟩:=HG.out j x hx
   obtain⟨g',o',rfl,c1⟩:=HG'.out j y hy
   replace c0:=kAw HU.out c0
   replace c1:=kAw HU.out c1
   have hd:=(Upto.refl [] wr).drew
   have d0:=(hd.cell (p:=⟨g,o+j,none⟩) (World.block_lt_of_cell? wr _ c0) (by simp)).trans c0
   have d1:=(hd.cell (p:=⟨g',o'+j,none⟩) (World.block_lt_of_cell? wr _ c1) (by simp)).trans c1
   have HD:=Lib.hid (HU.out.trans_ext hd)
   have hltI:(j:Int)<ll:=by omega
   by_cases hxy:x=y
   ·subst hxy
    have HE2:Hid (∀q,q<j+1→xs[q]?=ys[q]?):=Lib.hid (fun q hq=>by
     by_cases hqj:q=j
     ·subst hqj;rw [hx,hy]
     ·exact HE.out q (by omega))
    clear hx hy hd HE
    go_wp2_with fail
    go_region
    all_goals (
     go_wp2_with fail
     go_roundw
     case rel=>exact⟨j+1,by omega,by go_num,HE2,HD⟩
     case measure=>simp [intOf];omega)
   ·have HF:Hid (R=false):=Lib.hid (by
     rw [←hR.out,decide_eq_false_iff_not]
     intro h
     rw [h,hy] at hx
     exact hxy (Option.some.inj hx).symm)
    have q1:(x==y)=false:=by simpa using hxy
    have q2:(x != y)=true:=by rw [bne,q1];rfl
    clear hx hy hd HE hxy
    go_wp2_with fail
    go_region
    all_goals (
     go_wp2_with fail
     go_ret
     rw [HF.out]
     exact⟨rfl,HD.out⟩)
  ·obtain rfl:j=ll:=by omega
   have hgeI:(j:Int)≥j:=by omega
   have HF:Hid (R=true):=Lib.hid (by
    rw [←hR.out,decide_eq_true_eq]
    apply List.ext_getElem?
    intro i
    by_cases hi:i<j
    ·exact HE.out i hi
    ·rw [List.getElem?_eq_none (by have:=HLL.out.1;omega),List.getElem?_eq_none (by have:=HLL.out.2;omega)])
   clear HE
   go_wp2
   go_ret
   rw [HF.out]
   exact⟨rfl,HU.out⟩
theorem vars_calls (xs ys:List (List UInt8×Int)) (v v':Value) (P P':Nat→Prop) (w:World) (hl:xs.length≤10000000) (_hl':ys.length≤10000000) (h:VarsV w P v xs) (h':VarsV w P' v' ys):Calls Tryz.prog 59 #[v,v'] w fun e w'=>e=.returned (.bool (decide (xs=ys)))∧Upto [] w w':=by
 obtain⟨a,c,rfl,hg⟩:=SlP.get h
 obtain⟨a',c',rfl,hg'⟩:=SlP.get h'
 have HG:Hid (∀i x,xs[i]?=some x→∃g o,a=some ⟨g,o,none⟩∧w.cell? ⟨g,o+i*2,none⟩=some (.string ⟨x.1.toArray⟩)∧w.cell? ⟨g,o+i*2+1,none⟩=some (.int .i64 x.2)):=Lib.hid (fun i x hi=>by
  obtain⟨g,o,rfl,h1⟩:=hg _ _ (vars_at hi).1
  obtain⟨g2,o2,e,h2⟩:=hg _ _ (vars_at hi).2
  simp at e
  obtain⟨rfl,rfl⟩:=e
  exact⟨g,o,rfl,h1,h2⟩)
 have HG':Hid (∀i x,ys[i]?=some x→∃g o,a'=some ⟨g,o,none⟩∧w.cell? ⟨g,o+i*2,none⟩=some (.string ⟨x.1.toArray⟩)∧w.cell? ⟨g,o+i*2+1,none⟩=some (.int .i64 x.2)):=Lib.hid (fun i x hi=>by
  obtain⟨g,o,rfl,h1⟩:=hg' _ _ (vars_at hi).1
  obtain⟨g2,o2,e,h2⟩:=hg' _ _ (vars_at hi).2
  simp at e
  obtain⟨rfl,rfl⟩:=e
  exact⟨g,o,rfl,h1,h2⟩)
 have HU0:=Lib.hid (Upto.refl [] w)
 clear h h' hg hg'
 by_cases hne:xs.length≠ys.length
 ·have HF:Hid (decide (xs=ys)=false):=Lib.hid (by simp;intro e;exact hne (by rw [e]))
  rw [HF.out]
  generalize hA:xs.length=A at *
  generalize hB:ys.length=B at *
  have q1:((A:Int)==(B:Int))=false:=by rw [beq_eq_false_iff_ne];omega
  have q2:((A:Int) != (B:Int))=true:=by rw [bne,q1];rfl
  clear hne HF hA hB
  go_enter Tryz.func59,Tryz.ntmps59
  go_wp2_with fail
  go_ret
  exact⟨rfl,HU0.out⟩
 have hne:=Decidable.not_not.1 hne
 obtain⟨ll,hll⟩:∃ll,xs.length=ll:=⟨_,rfl⟩
 have hll':ys.length=ll:=hne▸hll
 have HLL:=Lib.hid (And.intro hll hll')
 rw [hll,hll']
 have hL0:(0:Int)≤ll:=by omega
 have hL1:(ll:Int)≤10000000:=by omega
 clear hll hll' hl _hl' hne
 obtain⟨R,hR⟩:∃R,Hid (decide (xs=ys)=R):=⟨_,Lib.hid rfl⟩
 rw [hR.out]
 go_enter Tryz.func59,Tryz.ntmps59
 go_wp2_with fail
 go_loopw [13] (fun i wr=>∃j:Nat,j≤ll∧i=.int .i64 j∧Hid (∀q,q<j→xs[q]?=ys[q]?)∧Hid (Upto [] w wr)) (fun i _=>ll-(intOf i).toNat)
 case atStart=>exact⟨0,by omega,rfl,Lib.hid (fun q hq=>by omega),Lib.hid (Upto.refl _ _)⟩
 case round =>
  obtain⟨j,hj,rfl,HE,HU⟩:=hrel
  have hj0:(0:Int)≤j:=by omega
  rcases Nat.lt_or_ge j ll with hlt | hge
  ·obtain⟨x,hx⟩:∃x,xs[j]?=some x:=⟨_,List.getElem?_eq_getElem (by have:=HLL.out.1;omega)⟩
   obtain⟨y,hy⟩:∃y,ys[j]?=some y:=⟨_,List.getElem?_eq_getElem (by have:=HLL.out.2;omega)⟩
   obtain⟨g,o,rfl,c0,c1⟩:=HG.out j x hx
   obtain⟨g',o',rfl,c2,c3⟩:=HG'.out j y hy
   replace c0:=kAw HU.out c0
   replace c1:=kAw HU.out c1
   replace c2:=kAw HU.out c2
   replace c3:=kAw HU.out c3
   have hd:=(Upto.refl [] wr).drew
   have d0:=(hd.cell (p:=⟨g,o+j*2,none⟩) (World.block_lt_of_cell? wr _ c0) (by simp)).trans c0
   have d1:=(hd.cell (p:=⟨g,o+j*2+1,none⟩) (World.block_lt_of_cell? wr _ c1) (by simp)).trans c1
   have d2:=(hd.cell (p:=⟨g',o'+j*2,none⟩) (World.block_lt_of_cell? wr _ c2) (by simp)).trans c2
   have d3:=(hd.cell (p:=⟨g',o'+j*2+1,none⟩) (World.block_lt_of_cell? wr _ c3) (by simp)).trans c3
   have HD:=Lib.hid (HU.out.trans_ext hd)
   have hltI:(j:Int)<ll:=by omega
   obtain⟨x1,x2⟩:=x
   obtain⟨y1,y2⟩:=y
   simp only at c0 c1 c2 c3 d0 d1 d2 d3
   by_cases hxy:x1=y1
   ·subst hxy
    by_cases hxy2:x2=y2
    ·subst hxy2
     have HE2:Hid (∀q,q<j+1→xs[q]?=ys[q]?):=Lib.hid (fun q hq=>by
      by_cases hqj:q=j
      ·subst hqj;rw [hx,hy]
      ·exact HE.out q (by omega))
     clear hx hy hd HE
     go_wp2_with fail
     go_region
     all_goals (
      go_wp2_with fail
      go_roundw
      case rel=>exact⟨j+1,by omega,by go_num,HE2,HD⟩
      case measure=>simp [intOf];omega)
    ·have HF:Hid (R=false):=Lib.hid (by
      rw [←hR.out,decide_eq_false_iff_not]
      intro h
      rw [h,hy] at hx
      have:=Option.some.inj hx
      simp at this
      exact hxy2 this.symm)
     have q1:(x2==y2)=false:=by rw [beq_eq_false_iff_ne];exact hxy2
     have q2:(x2 != y2)=true:=by rw [bne,q1];rfl
     clear hx hy hd HE
     go_wp2_with fail
     go_region
     all_goals (
      go_wp2_with fail
      go_ret
      rw [HF.out]
      exact⟨rfl,HD.out⟩)
   ·have HF:Hid (R=false):=Lib.hid (by
     rw [←hR.out,decide_eq_false_iff_not]
     intro h
     rw [h,hy] at hx
     have:=Option.some.inj hx
     simp at this
     exact hxy this.1.symm)
    have q1:(x1==y1)=false:=by simpa using hxy
    have q2:(x1 != y1)=true:=by rw [bne,q1];rfl
    clear hx hy hd HE
    go_wp2_with fail
    go_region
    all_goals (
     go_wp2_with fail
     go_ret
     rw [HF.out]
     exact⟨rfl,HD.out⟩)
  ·obtain rfl:j=ll:=by omega
   have hgeI:(j:Int)≥j:=by omega
   have HF:Hid (R=true):=Lib.hid (by
    rw [←hR.out,decide_eq_true_eq]
    apply List.ext_getElem?
    intro i
    by_cases hi:i<j
    ·exact HE.out i hi
    ·rw [List.getElem?_eq_none (by have:=HLL.out.1;omega),List.getElem?_eq_none (by have:=HLL.out.2;omega)])
   clear HE
   go_wp2
   go_ret
   rw [HF.out]
   exact⟨rfl,HU.out⟩
theorem eqf_calls (l l':List Nd) (a a':Option Addr) (c c':Nat) (P P':Nat→Prop) (w:World) (hl:l.length≤10000000) (_hl':l'.length≤10000000) (h:LsAt w P a l) (h':LsAt w P' a' l')
  (ih:∀x∈l,∀y∈l',∀u u' w1,NdV w1 P x u→NdV w1 P' y u'→Calls Tryz.prog 28 #[u,u'] w1 fun e w'=>e=.returned (.bool (kPx x y))∧Upto [] w1 w') :
  Calls Tryz.prog 61 #[.slice a l.length c,.slice a' l'.length c',.func (.func 28) #[] #[]] w fun e w'=>e=.returned (.bool (samesF l l'))∧Upto [] w w':=by
 have HG:=Lib.hid h
 have HG':=Lib.hid h'
 have HIH:=Lib.hid ih
 have HU0:=Lib.hid (Upto.refl [] w)
 clear h h' ih
 by_cases hne:l.length≠l'.length
 ·have HF:Hid (samesF l l'=false):=Lib.hid (by
   rw [Bool.eq_false_iff]
   intro e
   rw [samesF_eq] at e
   exact hne (by rw [e]))
  rw [HF.out]
  generalize hA:l.length=A at *
  generalize hB:l'.length=B at *
  have q1:((A:Int)==(B:Int))=false:=by rw [beq_eq_false_iff_ne];omega
  have q2:((A:Int) != (B:Int))=true:=by rw [bne,q1];rfl
  clear hne HF hA hB
  go_enter Tryz.func61,Tryz.ntmps61
  go_wp2_with fail
  go_ret
  exact⟨rfl,HU0.out⟩
 have hne:=Decidable.not_not.1 hne
 obtain⟨ll,hll⟩:∃ll,l.length=ll:=⟨_,rfl⟩
 have hll':l'.length=ll:=hne▸hll
 have HLL:=Lib.hid (And.intro hll hll')
 rw [hll,hll']
 have hL0:(0:Int)≤ll:=by omega
 have hL1:(ll:Int)≤10000000:=by omega
 clear hll hll' hl _hl' hne
 obtain⟨R,hR⟩:∃R,Hid (samesF l l'=R):=⟨_,Lib.hid rfl⟩
 rw [hR.out]
 go_enter Tryz.func61,Tryz.ntmps61
 go_wp2_with fail
 go_loopw [17] (fun i wr=>∃j:Nat,j≤ll∧i=.int .i64 j∧Hid (∀q x y,q<j→l[q]?=some x→l'[q]?=some y→x=y)∧Hid (Upto [] w wr)) (fun i _=>ll-(intOf i).toNat)
 case atStart=>exact⟨0,by omega,rfl,Lib.hid (fun q x y hq=>by omega),Lib.hid (Upto.refl _ _)⟩
 case round =>
  obtain⟨j,hj,rfl,HE,HU⟩:=hrel
  have hj0:(0:Int)≤j:=by omega
  rcases Nat.lt_or_ge j ll with hlt | hge
  ·obtain⟨x,hx⟩:∃x,l[j]?=some x:=⟨_,List.getElem?_eq_getElem (by have:=HLL.out.1;omega)⟩
   obtain⟨y,hy⟩:∃y,l'[j]?=some y:=⟨_,List.getElem?_eq_getElem (by have:=HLL.out.2;omega)⟩
   obtain⟨g,o,xo,xn1,xn2,xn3,xs,xm,xq,xl1,xl2,xl3,rfl,-⟩:=HG.out j x hx
   obtain⟨g',o',yo,yn1,yn2,yn3,ys,ym,yq,yl1,yl2,yl3,rfl,-⟩:=HG'.out j y hy
   obtain⟨g1,o1,xo,xn1,xn2,xn3,xs,xm,xq,xl1,xl2,xl3,e1,c0,c1,c2,c3,c4,c5,hn⟩:=(HG.out.ext HU.out) j x hx
   have hua:=(Upto.refl [] wr).alloc (.cells #[.int .i64 xo,.slice xn1 xn2 xn3,.int .i64 xs,.int .i64 xm,.int .i64 xq,.slice xl1 xl2 xl3] 34)
   obtain⟨g2,o2,yo,yn1,yn2,yn3,ys,ym,yq,yl1,yl2,yl3,e2,d0,d1,d2,d3,d4,d5,hn'⟩:=(HG'.out.ext (HU.out.trans_ext hua)) j y hy
   simp at e1 e2
   obtain⟨rfl,rfl⟩:=e1
   obtain⟨rfl,rfl⟩:=e2
   have hub:=(Upto.refl [] (wr.alloc (.cells #[.int .i64 xo,.slice xn1 xn2 xn3,.int .i64 xs,.int .i64 xm,.int .i64 xq,.slice xl1 xl2 xl3] 34))).alloc (.cells #[.int .i64 yo,.slice yn1 yn2 yn3,.int .i64 ys,.int .i64 ym,.int .i64 yq,.slice yl1 yl2 yl3] 34)
   have HC:=Lib.hid (HIH.out x (List.mem_of_getElem? hx) y (List.mem_of_getElem? hy) _ _ ((wr.alloc (.cells #[.int .i64 xo,.slice xn1 xn2 xn3,.int .i64 xs,.int .i64 xm,.int .i64 xq,.slice xl1 xl2 xl3] 34)).alloc (.cells #[.int .i64 yo,.slice yn1 yn2 yn3,.int .i64 ys,.int .i64 ym,.int .i64 yq,.slice yl1 yl2 yl3] 34)) ((hn.ext hua).ext hub) (hn'.ext hub))
   have HU2:=Lib.hid ((HU.out.trans_ext hua).trans_ext hub)
   have hv8:=hub.at (kAq wr (.cells #[.int .i64 xo,.slice xn1 xn2 xn3,.int .i64 xs,.int .i64 xm,.int .i64 xq,.slice xl1 xl2 xl3] 34)) (by simp)
   obtain⟨t0,t1,t2,t3,t4,t5⟩:=kAx hv8
   obtain⟨u0,u1,u2,u3,u4,u5⟩:=kDk hv8
   have hltI:(j:Int)<ll:=by omega
   have hbb:kPx x y=true∨kPx x y=false:=by cases kPx x y<;>simp
   rcases hbb with hb | hb
   ·have HE2:Hid (∀q x y,q<j+1→l[q]?=some x→l'[q]?=some y→x=y):=Lib.hid (fun q x' y' hq hx' hy'=>by
     by_cases hqi:q=j
     ·subst hqi
      rw [hx] at hx'
      rw [hy] at hy'
      cases hx'
      cases hy'
      exact (sameF_eq x y).1 hb
     ·exact HE.out q x' y' (by omega) hx' hy')
    rw [hb] at HC
    clear hx hy hn hn' hua hub hv8 hb HE
    go_wp2_with fail
    refine HC.out.mono ?_
    rintro e w5 ⟨rfl,hu5⟩
    have HU5:=Lib.hid (HU2.out.trans_ext hu5)
    clear hu5
    go_wp2_with fail
    go_roundw
    case rel=>exact⟨j+1,by omega,by go_num,HE2,HU5⟩
    case measure=>simp [intOf];omega
   ·have HF:Hid (R=false):=Lib.hid (by
     rw [←hR.out,Bool.eq_false_iff]
     intro h
     rw [samesF_eq] at h
     rw [h,hy] at hx
     have:=Option.some.inj hx
     subst this
     rw [(sameF_eq y y).2 rfl] at hb
     cases hb)
    rw [hb] at HC
    clear hx hy hn hn' hua hub hv8 hb HE
    go_wp2_with fail
    refine HC.out.mono ?_
    rintro e w5 ⟨rfl,hu5⟩
    have HU5:=Lib.hid (HU2.out.trans_ext hu5)
    clear hu5
    go_wp2_with fail
    go_ret
    rw [HF.out]
    exact⟨rfl,HU5.out⟩
  ·obtain rfl:j=ll:=by omega
   have hgeI:(j:Int)≥j:=by omega
   have HF:Hid (R=true):=Lib.hid (by
    rw [←hR.out,samesF_eq]
    apply List.ext_getElem?
    intro i
    by_cases hi:i<j
    ·obtain⟨x,hx⟩:∃x,l[i]?=some x:=⟨_,List.getElem?_eq_getElem (by have:=HLL.out.1;omega)⟩
     obtain⟨y,hy⟩:∃y,l'[i]?=some y:=⟨_,List.getElem?_eq_getElem (by have:=HLL.out.2;omega)⟩
     rw [hx,hy,HE.out i x y hi hx hy]
    ·rw [List.getElem?_eq_none (by have:=HLL.out.1;omega),List.getElem?_eq_none (by have:=HLL.out.2;omega)])
   clear HE
   go_wp2
   go_ret
   rw [HF.out]
   exact⟨rfl,HU.out⟩
theorem equal_calls:∀(k:Nat) (x:Nd),kCz x≤k→k≤10000000→bigN x→∀(y:Nd),kCz y≤10000000→bigN y→∀(P P':Nat→Prop) (v v':Value) (w:World),NdV w P x v→NdV w P' y v'→Calls Tryz.prog 28 #[v,v'] w fun e w'=>e=.returned (.bool (kPx x y))∧Upto [] w w'
 | 0,x,hk,_,_=>by have:=kJx x;omega
 | k+1,.mk op xs so n m ls,hk,hk7,hbg=>by
  intro y hy hbg' P P' v v' w h h'
  obtain⟨op',xs',so',n',m',ls'⟩:=y
  obtain⟨a1,c1,a2,c2,rfl,hs,hls⟩:=h.open
  obtain⟨b1,d1,b2,d2,rfl,hs',hls'⟩:=h'.open
  unfold bigN at hbg hbg'
  have hsz:kBk ls≤k:=by simp only [kCz] at hk;omega
  have hln:=kXj ls
  have hsz':kBk ls'≤10000000:=by simp only [kCz] at hy;omega
  have hln':=kXj ls'
  have hu2:Upto [] w ((w.alloc (.cells #[.int .i64 op,.slice a1 xs.length c1,.int .i64 so,.int .i64 n,.int .i64 m,.slice a2 ls.length c2] 34)).alloc (.cells #[.int .i64 op',.slice b1 xs'.length d1,.int .i64 so',.int .i64 n',.int .i64 m',.slice b2 ls'.length d2] 34)):=((Upto.refl [] w).alloc _).alloc _
  have HN:=Lib.hid (names_calls xs xs' _ _ P P' _ hbg.1 hbg'.1 (hs.ext hu2) (hs'.ext hu2))
  have HF:=Lib.hid (fun w1 (hu:Upto [] w w1)=>eqf_calls ls ls' a2 b2 c2 d2 P P' w1 (by omega) (by omega) (hls.ext hu) (hls'.ext hu) (fun x hx y hy u u' w2 hn hn'=>equal_calls k x (by have:=kSx hx;omega) (by omega) (bigs_mem hbg.2 hx) y (by have:=kSx hy;omega) (bigs_mem hbg'.2 hy) P P' u u' w2 hn hn'))
  have HU2:=Lib.hid hu2
  have hb1:=kCx (kAq w (.cells #[.int .i64 op,.slice a1 xs.length c1,.int .i64 so,.int .i64 n,.int .i64 m,.slice a2 ls.length c2] 34)) (.cells #[.int .i64 op',.slice b1 xs'.length d1,.int .i64 so',.int .i64 n',.int .i64 m',.slice b2 ls'.length d2] 34)
  have hb2:=kFz w (.cells #[.int .i64 op,.slice a1 xs.length c1,.int .i64 so,.int .i64 n,.int .i64 m,.slice a2 ls.length c2] 34) (.cells #[.int .i64 op',.slice b1 xs'.length d1,.int .i64 so',.int .i64 n',.int .i64 m',.slice b2 ls'.length d2] 34)
  have HB1:=Lib.hid hb1
  have HB2:=Lib.hid hb2
  obtain⟨x0,x1,x2,x3,x4,x5⟩:=kAx hb1
  obtain⟨y0,y1,y2,y3,y4,y5⟩:=kDk hb1
  obtain⟨z0,z1,z2,z3,z4,z5⟩:=kAx hb2
  obtain⟨t0,t1,t2,t3,t4,t5⟩:=kDk hb2
  clear hs hls hs' hls' hu2 h h' hb1 hb2 hbg hbg' hk hy hsz hsz' hln hln'
  by_cases e0:¬(op=op')
  ·have HF:Hid (kPx (.mk op xs so n m ls) (.mk op' xs' so' n' m' ls')=false):=Lib.hid (by unfold kPx;simp [e0])
   have q1:(op==op')=false:=by rw [beq_eq_false_iff_ne];exact e0
   have q2:(op != op')=true:=by rw [bne,q1];rfl
   clear e0
   go_enter Tryz.func28,Tryz.ntmps28
   go_wp2_with fail
   go_ret
   rw [HF.out]
   exact⟨rfl,HU2.out⟩
  have e0:=Decidable.not_not.1 e0
  subst e0
  have p0:(op==op)=true:=by simp
  by_cases e1:¬(so=so')
  ·have HF:Hid (kPx (.mk op xs so n m ls) (.mk op xs' so' n' m' ls')=false):=Lib.hid (by unfold kPx;simp [e1])
   have q1:(so==so')=false:=by rw [beq_eq_false_iff_ne];exact e1
   have q2:(so != so')=true:=by rw [bne,q1];rfl
   clear e1
   go_enter Tryz.func28,Tryz.ntmps28
   go_wp2_with fail
   go_ret
   rw [HF.out]
   exact⟨rfl,HU2.out⟩
  have e1:=Decidable.not_not.1 e1
  subst e1
  have p1:(so==so)=true:=by simp
  by_cases e2:¬(n=n')
  ·have HF:Hid (kPx (.mk op xs so n m ls) (.mk op xs' so n' m' ls')=false):=Lib.hid (by unfold kPx;simp [e2])
   have q1:(n==n')=false:=by rw [beq_eq_false_iff_ne];exact e2
   have q2:(n != n')=true:=by rw [bne,q1];rfl
   clear e2
   go_enter Tryz.func28,Tryz.ntmps28
   go_wp2_with fail
   go_ret
   rw [HF.out]
   exact⟨rfl,HU2.out⟩
  have e2:=Decidable.not_not.1 e2
  subst e2
  have p2:(n==n)=true:=by simp
  by_cases e3:¬(m=m')
  ·have HF:Hid (kPx (.mk op xs so n m ls) (.mk op xs' so n m' ls')=false):=Lib.hid (by unfold kPx;simp [e3])
   have q1:(m==m')=false:=by rw [beq_eq_false_iff_ne];exact e3
   have q2:(m != m')=true:=by rw [bne,q1];rfl
   clear e3
   go_enter Tryz.func28,Tryz.ntmps28
   go_wp2_with fail
   go_ret
   rw [HF.out]
   exact⟨rfl,HU2.out⟩
  have e3:=Decidable.not_not.1 e3
  subst e3
  have p3:(m==m)=true:=by simp
  by_cases e4:¬(xs=xs')
  ·have HR:Hid (kPx (.mk op xs so n m ls) (.mk op xs' so n m ls')=false):=Lib.hid (by unfold kPx;simp [e4])
   have hd:decide (xs=xs')=false:=by simpa using e4
   rw [hd] at HN
   clear e4 hd
   go_enter Tryz.func28,Tryz.ntmps28
   go_wp2_with fail
   refine HN.out.mono ?_
   rintro e w2 ⟨rfl,hu2⟩
   have HU3:=Lib.hid (HU2.out.trans_ext hu2)
   clear hu2
   go_wp2_with fail
   go_ret
   rw [HR.out]
   exact⟨rfl,HU3.out⟩
  have e4:=Decidable.not_not.1 e4
  subst e4
  have hd:decide (xs=xs)=true:=by simp
  have HR:Hid (kPx (.mk op xs so n m ls) (.mk op xs so n m ls')=samesF ls ls'):=Lib.hid (by unfold kPx;simp)
  rw [hd] at HN
  clear hd
  rw [HR.out]
  generalize samesF ls ls'=R at *
  go_enter Tryz.func28,Tryz.ntmps28
  go_wp2_with fail
  refine HN.out.mono ?_
  rintro e w2 ⟨rfl,hu2⟩
  have hb1:=hu2.at HB1.out (by simp)
  have hb2:=hu2.at HB2.out (by simp)
  obtain⟨u0,u1,u2,u3,u4,u5⟩:=kAx hb1
  obtain⟨uf0,uf1,uf2,uf3,uf4,uf5⟩:=kDk hb1
  obtain⟨r0,r1,r2,r3,r4,r5⟩:=kAx hb2
  obtain⟨rf0,rf1,rf2,rf3,rf4,rf5⟩:=kDk hb2
  have HC:=Lib.hid (HF.out w2 (HU2.out.trans_ext hu2))
  have HU3:=Lib.hid (HU2.out.trans_ext hu2)
  clear hu2 hb1 hb2
  go_wp2_with fail
  refine HC.out.mono ?_
  rintro e w3 ⟨rfl,hu3⟩
  have HU4:=Lib.hid (HU3.out.trans_ext hu3)
  clear hu3
  go_wp2_with fail
  go_ret
  exact⟨rfl,HU4.out⟩
def kYx (q q':Qn):Bool:=decide (q.free=q'.free)&&kPx q.body q'.body
theorem alikeF_eq (q q':Qn):kYx q q'=true↔q=q':=by
 unfold kYx
 rw [Bool.and_eq_true,decide_eq_true_eq,sameF_eq]
 cases q;cases q'
 simp
theorem equalq_calls (q q':Qn) (P P':Nat→Prop) (v v':Value) (w:World) (hf:q.free.length≤10000000) (hs:kCz q.body≤10000000) (hb:bigN q.body) (hf':q'.free.length≤10000000) (hs':kCz q'.body≤10000000) (hb':bigN q'.body) (h:QnV w P q v) (h':QnV w P' q' v') :
  Calls Tryz.prog 26 #[v,v'] w fun e w'=>e=.returned (.bool (kYx q q'))∧Upto [] w w':=by
 obtain⟨f1,f3,o1,a1,a2,a3,s1,n1,m1,l1,l2,l3,rfl,hv,hn⟩:=h.open
 obtain⟨g1,g3,o2,b1,b2,b3,s2,n2,m2,k1,k2,k3,rfl,hv',hn'⟩:=h'.open
 have hu2:Upto [] w ((w.alloc (.cells #[.slice f1 q.free.length f3,.int .i64 o1,.slice a1 a2 a3,.int .i64 s1,.int .i64 n1,.int .i64 m1,.slice l1 l2 l3] 48)).alloc (.cells #[.slice g1 q'.free.length g3,.int .i64 o2,.slice b1 b2 b3,.int .i64 s2,.int .i64 n2,.int .i64 m2,.slice k1 k2 k3] 48)):=((Upto.refl [] w).alloc _).alloc _
 have HN:=Lib.hid (vars_calls q.free q'.free _ _ P P' _ hf hf' (SlP.ext hv hu2) (SlP.ext hv' hu2))
 have HF:=Lib.hid (fun w1 (hu:Upto [] w w1)=>equal_calls _ q.body (Nat.le_refl _) hs hb q'.body hs' hb' P P' _ _ w1 (hn.ext hu) (hn'.ext hu))
 have HU2:=Lib.hid hu2
 have hb1:=kCx (kAq w (.cells #[.slice f1 q.free.length f3,.int .i64 o1,.slice a1 a2 a3,.int .i64 s1,.int .i64 n1,.int .i64 m1,.slice l1 l2 l3] 48)) (.cells #[.slice g1 q'.free.length g3,.int .i64 o2,.slice b1 b2 b3,.int .i64 s2,.int .i64 n2,.int .i64 m2,.slice k1 k2 k3] 48)
 have hb2:=kFz w (.cells #[.slice f1 q.free.length f3,.int .i64 o1,.slice a1 a2 a3,.int .i64 s1,.int .i64 n1,.int .i64 m1,.slice l1 l2 l3] 48) (.cells #[.slice g1 q'.free.length g3,.int .i64 o2,.slice b1 b2 b3,.int .i64 s2,.int .i64 n2,.int .i64 m2,.slice k1 k2 k3] 48)
 have HB1:=Lib.hid hb1
 have HB2:=Lib.hid hb2
 obtain⟨xa0,xa1,xa2,xa3,xa4,xa5,xa6⟩:=kBw hb1
 obtain⟨ya0,ya1,ya2,ya3,ya4,ya5,ya6⟩:=kRk hb1
 obtain⟨xb0,xb1,xb2,xb3,xb4,xb5,xb6⟩:=kBw hb2
 obtain⟨yb0,yb1,yb2,yb3,yb4,yb5,yb6⟩:=kRk hb2
 clear hv hn hv' hn' hu2 h h' hb1 hb2 hb hf hs hb' hf' hs'
 by_cases e4:¬(q.free=q'.free)
 ·have HR:Hid (kYx q q'=false):=Lib.hid (by unfold kYx;simp [e4])
  have hd:decide (q.free=q'.free)=false:=by simpa using e4
  rw [hd] at HN
  rw [HR.out]
  clear e4 hd
  go_enter Tryz.func26,Tryz.ntmps26
  go_wp2_with fail
  refine HN.out.mono ?_
  rintro e w2 ⟨rfl,hu2⟩
  have HU3:=Lib.hid (HU2.out.trans_ext hu2)
  clear hu2
  go_wp2_with fail
  go_ret
  exact⟨rfl,HU3.out⟩
 have e4:=Decidable.not_not.1 e4
 have hd:decide (q.free=q'.free)=true:=by simpa using e4
 have HR:Hid (kYx q q'=kPx q.body q'.body):=Lib.hid (by unfold kYx;rw [hd];rfl)
 rw [hd] at HN
 rw [HR.out]
 clear hd HR e4
 generalize kPx q.body q'.body=R at *
 go_enter Tryz.func26,Tryz.ntmps26
 go_wp2_with fail
 refine HN.out.mono ?_
 rintro e w2 ⟨rfl,hu2⟩
 have hb1:=hu2.at HB1.out (by simp)
 have hb2:=hu2.at HB2.out (by simp)
 obtain⟨pa0,pa1,pa2,pa3,pa4,pa5,pa6⟩:=kBw hb1
 obtain⟨qa0,qa1,qa2,qa3,qa4,qa5,qa6⟩:=kRk hb1
 obtain⟨pb0,pb1,pb2,pb3,pb4,pb5,pb6⟩:=kBw hb2
 obtain⟨qb0,qb1,qb2,qb3,qb4,qb5,qb6⟩:=kRk hb2
 have HC:=Lib.hid (HF.out w2 (HU2.out.trans_ext hu2))
 have HU3:=Lib.hid (HU2.out.trans_ext hu2)
 clear hu2 hb1 hb2
 go_wp2_with fail
 refine HC.out.mono ?_
 rintro e w3 ⟨rfl,hu3⟩
 have HU4:=Lib.hid (HU3.out.trans_ext hu3)
 clear hu3
 go_wp2_with fail
 go_ret
 exact⟨rfl,HU4.out⟩
end Go.Proofs.YtkhbpebpljdifaaGreatDoor
