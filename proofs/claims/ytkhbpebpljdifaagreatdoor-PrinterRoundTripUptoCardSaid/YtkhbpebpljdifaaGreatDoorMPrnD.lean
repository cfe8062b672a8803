/- Merged texts. -/
import Derived.Test.YtkhbpebpljdifaaGreatDoorMPri
set_option maxRecDepth 100000
set_option maxHeartbeats 25600000
namespace Go.Proofs.YtkhbpebpljdifaaGreatDoor
open Go.PL
section
variable {l:List PL.Tok} (hf:Fin l)
include hf
end
section
variable {l:List PL.Tok} (hf:Fin l)
include hf
end
theorem bareP_ok {l:List PL.Tok} (hf:Fin l) (hn:0<l.length):∃q s',bareP l=some (q,s')∧Adv l ⟨0,0,0⟩ s'∧kCz q.body≤2*l.length+1∧q.free.length≤9:=by
 obtain⟨n,s2,e2,a2,z2⟩:=wholeP_ok hf ⟨0,0,0⟩ rfl hn
 have:=a2.lt
 exact⟨⟨[],n⟩,s2,by unfold bareP;rw [e2];rfl,a2,by simp only;omega,by simp⟩
end Go.Proofs.YtkhbpebpljdifaaGreatDoor
namespace Go.Proofs.YtkhbpebpljdifaaGreatDoor
open Go.PL
theorem lvs_get (last:Bool):∀(l:List Nd) (i:Nat),(∀x∈l,lvF last x≤2*kNw x)→(lvsF last l).getD i 0≤2*kLz l
 | [],i,_=>by simp [lvsF]
 | x::xs,0,h=>by
  have:=h x (by simp)
  simp only [lvsF,List.getD_cons_zero,kLz]
  omega
 | x::xs,i+1,h=>by
  have:=lvs_get last xs i (fun y hy=>h y (by simp [hy]))
  simp only [lvsF,List.getD_cons_succ,kLz]
  omega
theorem parL_le (b:Bool) (t u:Nat):parL b t u≤max (1+t) u:=by
 cases b
 ·simp only [parL,if_false,Bool.false_eq_true];omega
 ·simp only [parL,if_true];omega
theorem lv_le:∀(k:Nat) (nd:Nd),kCz nd≤k→∀last,lvF last nd≤2*kNw nd
 | 0,nd,hn,_=>by have:=kRw nd;omega
 | k+1,.mk op names so n m ls,hn,last=>by
  unfold kCz at hn
  have hall:∀(last:Bool),∀x∈ls,lvF last x≤2*kNw x:=fun last x hx=>lv_le k x (by have:=sizes_mem hx;omega) last
  have hg:=fun last i=>lvs_get last ls i (hall last)
  unfold lvF kNw
  have h00:=hg true 0
  have h01:=hg true 1
  have h10:=hg false 0
  have h11:=hg last 0
  have h12:=hg last 1
  have p1:=parL_le (parB 11 0 (opNd ls 0) last) ((lvsF true ls).getD 0 0) ((lvsF last ls).getD 0 0)
  have p2:=parL_le (parB op 0 (opNd ls 0) false) ((lvsF true ls).getD 0 0) ((lvsF false ls).getD 0 0)
  have p3:=parL_le (parB op 1 (opNd ls 1) last) ((lvsF true ls).getD 1 0) ((lvsF last ls).getD 1 0)
  by_cases h1:op<11
  ·rw [if_pos h1];omega
  rw [if_neg h1]
  by_cases h2:op=11
  ·rw [if_pos h2];omega
  rw [if_neg h2]
  by_cases h3:op<16
  ·rw [if_pos h3];omega
  ·rw [if_neg h3];omega
end Go.Proofs.YtkhbpebpljdifaaGreatDoor
namespace Go.Proofs.YtkhbpebpljdifaaGreatDoor
open Go.RowKit Go.PL Go.Maps
theorem bare1_calls (w:World) (p:Nat) (l:List PL.Tok) (htx:∀t∈l,t.text.length≤65536) (s s':PS) (q:Qn) (hx:Cx w p l) (h:RdAt w p l s) (hd:s.dp≤256) (he:(wholeP l s).map (fun r=>(⟨[],r.1⟩,r.2))=some (q,s')) :
  Calls Tryz.prog 57 #[.pointer (some ⟨p,0,none⟩)] w (QPost w p l s q s'):=by
 have HF:Hid (Fin l):=Lib.hid h.fin
 have hin:=h.inb
 have HpB:Hid (p<w.heap.size):=Lib.hid h.lt
 have hu0:Upto [] w (w.alloc (.cells #[.slice none 0 0,.int .i64 0,.slice none 0 0,.int .i64 0,.int .i64 0,.int .i64 0,.slice none 0 0] 48)):=(Upto.refl [] w).alloc _
 have HR0:=Lib.hid (h.ext hu0)
 have HX0:=Lib.hid (hx.ext hu0)
 have HU0:Hid (Upto [p] w (w.alloc (.cells #[.slice none 0 0,.int .i64 0,.slice none 0 0,.int .i64 0,.int .i64 0,.int .i64 0,.slice none 0 0] 48))):=Lib.hid (hu0.mono (by simp))
 have HNew:Hid ((w.alloc (.cells #[.slice none 0 0,.int .i64 0,.slice none 0 0,.int .i64 0,.int .i64 0,.int .i64 0,.slice none 0 0] 48)).heap[w.heap.size]?=some (.cells #[.slice none 0 0,.int .i64 0,.slice none 0 0,.int .i64 0,.int .i64 0,.int .i64 0,.slice none 0 0] 48 (0,0))):=Lib.hid (kAq _ _)
 obtain⟨m,hv,rfl⟩:∃m,wholeP l s=some (m,s')∧q=⟨[],m⟩:=by
  cases hq:wholeP l s with
  | none=>rw [hq] at he;cases he
  | some r=>obtain⟨m,t⟩:=r;rw [hq] at he;simp at he;obtain⟨rfl,rfl⟩:=he;exact⟨m,rfl,rfl⟩
 clear hx h hu0 he
 go_enter Tryz.func57,Tryz.ntmps57
 go_wp2_with fail
 refine (whole_calls p l htx _ s m s' HX0.out HR0.out hd hv).mono ?_
 rintro e w2 ⟨vv,rfl,hn,hR2,hu2,ha⟩
 obtain⟨oa,na1,na2,na3,sa,ma,qa,la1,la2,la3,rfl⟩:=hn.six
 have hz:=hu2.at HNew.out (by have:=HpB.out;simp;omega)
 obtain⟨z0,z1,z2,z3,z4,z5,z6⟩:=kBw hz
 obtain⟨y0,y1,y2,y3,y4,y5,y6⟩:=kRk hz
 have HZ:=Lib.hid hz
 have HN:=Lib.hid hn
 have HR2:=Lib.hid hR2
 have HU2:=Lib.hid hu2
 have HA:=Lib.hid ha
 clear hn hR2 hu2 ha hz
 go_wp2_with fail
 have hst:=q_store HZ.out (.slice none 0 0) (.int .i64 oa) (.slice na1 na2 na3) (.int .i64 sa) (.int .i64 ma) (.int .i64 qa) (.slice la1 la2 la3)
 obtain⟨q0,q1,q2,q3,q4,q5,q6⟩:=kBw hst
 exact bodyPost_ret (v:=.agg #[.slice none 0 0,.int .i64 oa,.slice na1 na2 na3,.int .i64 sa,.int .i64 ma,.int .i64 qa,.slice la1 la2 la3]) (by simp [results,Tryz.results57,go_sem,q0,q1,q2,q3,q4,q5,q6]) rfl (qpost_fin (q:=⟨[],m⟩) (P:=New (w.alloc (.cells #[.slice none 0 0,.int .i64 0,.slice none 0 0,.int .i64 0,.int .i64 0,.int .i64 0,.slice none 0 0] 48))) (Nat.le_refl _) HpB.out (HU0.out.trans_same HU2.out) HR2.out HA.out SlP.nil HN.out (fun b hb _=>by have h1:=HU0.out.size;have h2:=kAk HNew.out;unfold New at hb ⊢;omega))
end Go.Proofs.YtkhbpebpljdifaaGreatDoor
namespace Go.Proofs.YtkhbpebpljdifaaGreatDoor
open Go.PL
theorem check_ok {nm:List UInt8→Bool} (hnm:∀x,nm x=true→Real 1 x 0) {n:Nd} (h:kSq nm n=0):okF n∧kIz n=0:=by
 unfold kSq at h
 by_cases h3:kKk nm n≠0
 ·rw [if_pos h3] at h;exact absurd h h3
 rw [if_neg h3] at h
 exact⟨form_ok hnm _ _ (Nat.le_refl _) (Decidable.not_not.1 h3),h⟩
end Go.Proofs.YtkhbpebpljdifaaGreatDoor
namespace Go.Proofs.YtkhbpebpljdifaaGreatDoor
open Go.RowKit Go.PL Go.Maps
mutual
def kPx:Nd→Nd→Bool
 | .mk op xs so n m l,.mk op' xs' so' n' m' l'=>decide (op=op')&&decide (so=so')&&decide (n=n')&&decide (m=m')&&decide (xs=xs')&&samesF l l'
def samesF:List Nd→List Nd→Bool
 | [],[]=>true
 | x::r,y::t=>kPx x y&&samesF r t
 | [],_::_=>false
 | _::_,[]=>false
end
mutual
theorem sameF_eq:∀(a b:Nd),kPx a b=true↔a=b
 | .mk op xs so n m l,.mk op' xs' so' n' m' l'=>by
  unfold kPx
  simp only [Bool.and_eq_true,decide_eq_true_eq,samesF_eq l l',Nd.mk.injEq]
  constructor
  ·rintro⟨⟨⟨⟨⟨h1,h2⟩,h3⟩,h4⟩,h5⟩,h6⟩;exact⟨h1,h5,h2,h3,h4,h6⟩
  ·rintro⟨h1,h5,h2,h3,h4,h6⟩;exact⟨⟨⟨⟨⟨h1,h2⟩,h3⟩,h4⟩,h5⟩,h6⟩
theorem samesF_eq:∀(a b:List Nd),samesF a b=true↔a=b
 | [],[]=>by simp [samesF]
 | x::r,y::t=>by
  unfold samesF
  simp only [Bool.and_eq_true,sameF_eq x y,samesF_eq r t,List.cons.injEq]
 | [],_::_=>by simp [samesF]
 | _::_,[]=>by simp [samesF]
end
theorem names_calls (xs ys:List (List UInt8)) (v v':Value) (P P':Nat→Prop) (w:World) (hl:xs.length≤10000000) (_hl':ys.length≤10000000) (h:SlP w P v xs.length (xs.map sV)) (h':SlP w P' v' ys.length (ys.map sV)):Calls Tryz.prog 60 #[v,v'] w fun e w'=>e=.returned (.bool (decide (xs=ys)))∧Upto [] w w':=by
 obtain⟨a,c,rfl,hg⟩:=h.get
 obtain⟨a',c',rfl,hg'⟩:=h'.get
 have HG:Hid (∀i x,xs[i]?=some x→∃g o,a=some ⟨g,o,none⟩∧w.cell? ⟨g,o+i,none⟩=some (.string ⟨x.toArray⟩)):=Lib.hid (fun i x hi=>hg i _ (by rw [List.getElem?_map,hi];rfl))
 have HG':Hid (∀i x,ys[i]?=some x→∃g o,a'=some ⟨g,o,none⟩∧w.cell? ⟨g,o+i,none⟩=some (.string ⟨x.toArray⟩)):=Lib.hid (fun i x hi=>hg' i _ (by rw [List.getElem?_map,hi];rfl))
 have HU0:=Lib.hid (Upto.refl [] w)
 clear h h' hg hg'
 by_cases hne:xs.length≠ys.length
 ·have HF:Hid (decide (xs=ys)=false):=Lib.hid (by simp;intro e;exact hne (by rw [e]))
  rw [HF.out]
  generalize hA:xs.length=A at *
  generalize hB:ys.length=B at *
  have q1:((A:Int)==(B:Int))=false:=by rw [beq_eq_false_iff_ne];omega
  have q2:((A:Int) != (B:Int))=true:=by rw [bne,q1];rfl
  clear hne HF hA hB
  go_enter Tryz.func60,Tryz.ntmps60
  go_wp2_with fail
  go_ret
  exact⟨rfl,HU0.out⟩
 have hne:=Decidable.not_not.1 hne
 obtain⟨ll,hll⟩:∃ll,xs.length=ll:=⟨_,rfl⟩
 have hll':ys.length=ll:=hne▸hll
 have HLL:=Lib.hid (And.intro hll hll')
 rw [hll,hll']
 have hL0:(0:Int)≤ll:=by omega
 have hL1:(ll:Int)≤10000000:=by omega
 clear hll hll' hl _hl' hne
 obtain⟨R,hR⟩:∃R,Hid (decide (xs=ys)=R):=⟨_,Lib.hid rfl⟩
 rw [hR.out]
 go_enter Tryz.func60,Tryz.ntmps60
 go_wp2_with fail
 go_loopw [13] (fun i wr=>∃j:Nat,j≤ll∧i=.int .i64 j∧Hid (∀q,q<j→xs[q]?=ys[q]?)∧Hid (Upto [] w wr)) (fun i _=>ll-(intOf i).toNat)
 case atStart=>exact⟨0,by omega,rfl,Lib.hid (fun q hq=>by omega),Lib.hid (Upto.refl _ _)⟩
 case round =>
  obtain⟨j,hj,rfl,HE,HU⟩:=hrel
  have hj0:(0:Int)≤j:=by omega
  rcases Nat.lt_or_ge j ll with hlt | hge
  ·obtain⟨x,hx⟩:∃x,xs[j]?=some x:=⟨_,List.getElem?_eq_getElem (by have:=HLL.out.1;omega)⟩
   obtain⟨y,hy⟩:∃y,ys[j]?=some y:=⟨_,List.getElem?_eq_getElem (by have:=HLL.out.2;omega)⟩
   obtain⟨g,o,rfl,c0⟩:=HG.out j x hx
   obtain⟨g',o',rfl,c1⟩:=HG'.out j y hy
   replace c0:=kAw HU.out c0
   replace c1:=kAw HU.out c1
   have hd:=(Upto.refl [] wr).drew
   have d0:=(hd.cell (p:=⟨g,o+j,none⟩) (World.block_lt_of_cell? wr _ c0) (by simp)).trans c0
   have d1:=(hd.cell (p:=⟨g',o'+j,none⟩) (World.block_lt_of_cell? wr _ c1) (by simp)).trans c1
   have HD:=Lib.hid (HU.out.trans_ext hd)
   have hltI:(j:Int)<ll:=by omega
   by_cases hxy:x=y
   ·subst hxy
    have HE2:Hid (∀q,q<j+1→xs[q]?=ys[q]?):=Lib.hid (fun q hq=>by
     by_cases hqj:q=j
     ·subst hqj;rw [hx,hy]
     ·exact HE.out q (by omega))
    clear hx hy hd HE
    go_wp2_with fail
    go_region
    all_goals (
     go_wp2_with fail
     go_roundw
     case rel=>exact⟨j+1,by omega,by go_num,HE2,HD⟩
     case measure=>simp [intOf];omega)
   ·have HF:Hid (R=false):=Lib.hid (by
     rw [←hR.out,decide_eq_false_iff_not]
     intro h
     rw [h,hy] at hx
     exact hxy (Option.some.inj hx).symm)
    have q1:(x==y)=false:=by simpa using hxy
    have q2:(x != y)=true:=by rw [bne,q1];rfl
    clear hx hy hd HE hxy
    go_wp2_with fail
    go_region
    all_goals (
     go_wp2_with fail
     go_ret
     rw [HF.out]
     exact⟨rfl,HD.out⟩)
  ·obtain rfl:j=ll:=by omega
   have hgeI:(j:Int)≥j:=by omega
   have HF:Hid (R=true):=Lib.hid (by
    rw [←hR.out,decide_eq_true_eq]
    apply List.ext_getElem?
    intro i
    by_cases hi:i<j
    ·exact HE.out i hi
    ·rw [List.getElem?_eq_none (by have:=HLL.out.1;omega),List.getElem?_eq_none (by have:=HLL.out.2;omega)])
   clear HE
   go_wp2
   go_ret
   rw [HF.out]
   exact⟨rfl,HU.out⟩
theorem vars_calls (xs ys:List (List UInt8×Int)) (v v':Value) (P P':Nat→Prop) (w:World) (hl:xs.length≤10000000) (_hl':ys.length≤10000000) (h:VarsV w P v xs) (h':VarsV w P' v' ys):Calls Tryz.prog 59 #[v,v'] w fun e w'=>e=.returned (.bool (decide (xs=ys)))∧Upto [] w w':=by
 obtain⟨a,c,rfl,hg⟩:=SlP.get h
 obtain⟨a',c',rfl,hg'⟩:=SlP.get h'
 have HG:Hid (∀i x,xs[i]?=some x→∃g o,a=some ⟨g,o,none⟩∧w.cell? ⟨g,o+i*2,none⟩=some (.string ⟨x.1.toArray⟩)∧w.cell? ⟨g,o+i*2+1,none⟩=some (.int .i64 x.2)):=Lib.hid (fun i x hi=>by
  obtain⟨g,o,rfl,h1⟩:=hg _ _ (vars_at hi).1
  obtain⟨g2,o2,e,h2⟩:=hg _ _ (vars_at hi).2
  simp at e
  obtain⟨rfl,rfl⟩:=e
  exact⟨g,o,rfl,h1,h2⟩)
 have HG':Hid (∀i x,ys[i]?=some x→∃g o,a'=some ⟨g,o,none⟩∧w.cell? ⟨g,o+i*2,none⟩=some (.string ⟨x.1.toArray⟩)∧w.cell? ⟨g,o+i*2+1,none⟩=some (.int .i64 x.2)):=Lib.hid (fun i x hi=>by
  obtain⟨g,o,rfl,h1⟩:=hg' _ _ (vars_at hi).1
  obtain⟨g2,o2,e,h2⟩:=hg' _ _ (vars_at hi).2
  simp at e
  obtain⟨rfl,rfl⟩:=e
  exact⟨g,o,rfl,h1,h2⟩)
 have HU0:=Lib.hid (Upto.refl [] w)
 clear h h' hg hg'
 by_cases hne:xs.length≠ys.length
 ·have HF:Hid (decide (xs=ys)=false):=Lib.hid (by simp;intro e;exact hne (by rw [e]))
  rw [HF.out]
  generalize hA:xs.length=A at *
  generalize hB:ys.length=B at *
  have q1:((A:Int)==(B:Int))=false:=by rw [beq_eq_false_iff_ne];omega
  have q2:((A:Int) != (B:Int))=true:=by rw [bne,q1];rfl
  clear hne HF hA hB
  go_enter Tryz.func59,Tryz.ntmps59
  go_wp2_with fail
  go_ret
  exact⟨rfl,HU0.out⟩
 have hne:=Decidable.not_not.1 hne
 obtain⟨ll,hll⟩:∃ll,xs.length=ll:=⟨_,rfl⟩
 have hll':ys.length=ll:=hne▸hll
 have HLL:=Lib.hid (And.intro hll hll')
 rw [hll,hll']
 have hL0:(0:Int)≤ll:=by omega
 have hL1:(ll:Int)≤10000000:=by omega
 clear hll hll' hl _hl' hne
 obtain⟨R,hR⟩:∃R,Hid (decide (xs=ys)=R):=⟨_,Lib.hid rfl⟩
 rw [hR.out]
 go_enter Tryz.func59,Tryz.ntmps59
 go_wp2_with fail
 go_loopw [13] (fun i wr=>∃j:Nat,j≤ll∧i=.int .i64 j∧Hid (∀q,q<j→xs[q]?=ys[q]?)∧Hid (Upto [] w wr)) (fun i _=>ll-(intOf i).toNat)
 case atStart=>exact⟨0,by omega,rfl,Lib.hid (fun q hq=>by omega),Lib.hid (Upto.refl _ _)⟩
 case round =>
  obtain⟨j,hj,rfl,HE,HU⟩:=hrel
  have hj0:(0:Int)≤j:=by omega
  rcases Nat.lt_or_ge j ll with hlt | hge
  ·obtain⟨x,hx⟩:∃x,xs[j]?=some x:=⟨_,List.getElem?_eq_getElem (by have:=HLL.out.1;omega)⟩
   obtain⟨y,hy⟩:∃y,ys[j]?=some y:=⟨_,List.getElem?_eq_getElem (by have:=HLL.out.2;omega)⟩
   obtain⟨g,o,rfl,c0,c1⟩:=HG.out j x hx
   obtain⟨g',o',rfl,c2,c3⟩:=HG'.out j y hy
   replace c0:=kAw HU.out c0
   replace c1:=kAw HU.out c1
   replace c2:=kAw HU.out c2
   replace c3:=kAw HU.out c3
   have hd:=(Upto.refl [] wr).drew
   have d0:=(hd.cell (p:=⟨g,o+j*2,none⟩) (World.block_lt_of_cell? wr _ c0) (by simp)).trans c0
   have d1:=(hd.cell (p:=⟨g,o+j*2+1,none⟩) (World.block_lt_of_cell? wr _ c1) (by simp)).trans c1
   have d2:=(hd.cell (p:=⟨g',o'+j*2,none⟩) (World.block_lt_of_cell? wr _ c2) (by simp)).trans c2
   have d3:=(hd.cell (p:=⟨g',o'+j*2+1,none⟩) (World.block_lt_of_cell? wr _ c3) (by simp)).trans c3
   have HD:=Lib.hid (HU.out.trans_ext hd)
   have hltI:(j:Int)<ll:=by omega
   obtain⟨x1,x2⟩:=x
   obtain⟨y1,y2⟩:=y
   simp only at c0 c1 c2 c3 d0 d1 d2 d3
   by_cases hxy:x1=y1
   ·subst hxy
    by_cases hxy2:x2=y2
    ·subst hxy2
     have HE2:Hid (∀q,q<j+1→xs[q]?=ys[q]?):=Lib.hid (fun q hq=>by
      by_cases hqj:q=j
      ·subst hqj;rw [hx,hy]
      ·exact HE.out q (by omega))
     clear hx hy hd HE
     go_wp2_with fail
     go_region
     all_goals (
      go_wp2_with fail
      go_roundw
      case rel=>exact⟨j+1,by omega,by go_num,HE2,HD⟩
      case measure=>simp [intOf];omega)
    ·have HF:Hid (R=false):=Lib.hid (by
      rw [←hR.out,decide_eq_false_iff_not]
      intro h
      rw [h,hy] at hx
      have:=Option.some.inj hx
      simp at this
      exact hxy2 this.symm)
     have q1:(x2==y2)=false:=by rw [beq_eq_false_iff_ne];exact hxy2
     have q2:(x2 != y2)=true:=by rw [bne,q1];rfl
     clear hx hy hd HE
     go_wp2_with fail
     go_region
     all_goals (
      go_wp2_with fail
      go_ret
      rw [HF.out]
      exact⟨rfl,HD.out⟩)
   ·have HF:Hid (R=false):=Lib.hid (by
     rw [←hR.out,decide_eq_false_iff_not]
     intro h
     rw [h,hy] at hx
     have:=Option.some.inj hx
     simp at this
     exact hxy this.1.symm)
    have q1:(x1==y1)=false:=by simpa using hxy
    have q2:(x1 != y1)=true:=by rw [bne,q1];rfl
    clear hx hy hd HE
    go_wp2_with fail
    go_region
    all_goals (
     go_wp2_with fail
     go_ret
     rw [HF.out]
     exact⟨rfl,HD.out⟩)
  ·obtain rfl:j=ll:=by omega
   have hgeI:(j:Int)≥j:=by omega
   have HF:Hid (R=true):=Lib.hid (by
    rw [←hR.out,decide_eq_true_eq]
    apply List.ext_getElem?
    intro i
    by_cases hi:i<j
    ·exact HE.out i hi
    ·rw [List.getElem?_eq_none (by have:=HLL.out.1;omega),List.getElem?_eq_none (by have:=HLL.out.2;omega)])
   clear HE
   go_wp2
   go_ret
   rw [HF.out]
   exact⟨rfl,HU.out⟩
theorem eqf_calls (l l':List Nd) (a a':Option Addr) (c c':Nat) (P P':Nat→Prop) (w:World) (hl:l.length≤10000000) (_hl':l'.length≤10000000) (h:LsAt w P a l) (h':LsAt w P' a' l')
  (ih:∀x∈l,∀y∈l',∀u u' w1,NdV w1 P x u→NdV w1 P' y u'→Calls Tryz.prog 28 #[u,u'] w1 fun e w'=>e=.returned (.bool (kPx x y))∧Upto [] w1 w') :
  Calls Tryz.prog 61 #[.slice a l.length c,.slice a' l'.length c',.func (.func 28) #[] #[]] w fun e w'=>e=.returned (.bool (samesF l l'))∧Upto [] w w':=by
 have HG:=Lib.hid h
 have HG':=Lib.hid h'
 have HIH:=Lib.hid ih
 have HU0:=Lib.hid (Upto.refl [] w)
 clear h h' ih
 by_cases hne:l.length≠l'.length
 ·have HF:Hid (samesF l l'=false):=Lib.hid (by
   rw [Bool.eq_false_iff]
   intro e
   rw [samesF_eq] at e
   exact hne (by rw [e]))
  rw [HF.out]
  generalize hA:l.length=A at *
  generalize hB:l'.length=B at *
  have q1:((A:Int)==(B:Int))=false:=by rw [beq_eq_false_iff_ne];omega
  have q2:((A:Int) != (B:Int))=true:=by rw [bne,q1];rfl
  clear hne HF hA hB
  go_enter Tryz.func61,Tryz.ntmps61
  go_wp2_with fail
  go_ret
  exact⟨rfl,HU0.out⟩
 have hne:=Decidable.not_not.1 hne
 obtain⟨ll,hll⟩:∃ll,l.length=ll:=⟨_,rfl⟩
 have hll':l'.length=ll:=hne▸hll
 have HLL:=Lib.hid (And.intro hll hll')
 rw [hll,hll']
 have hL0:(0:Int)≤ll:=by omega
 have hL1:(ll:Int)≤10000000:=by omega
 clear hll hll' hl _hl' hne
 obtain⟨R,hR⟩:∃R,Hid (samesF l l'=R):=⟨_,Lib.hid rfl⟩
 rw [hR.out]
 go_enter Tryz.func61,Tryz.ntmps61
 go_wp2_with fail
 go_loopw [17] (fun i wr=>∃j:Nat,j≤ll∧i=.int .i64 j∧Hid (∀q x y,q<j→l[q]?=some x→l'[q]?=some y→x=y)∧Hid (Upto [] w wr)) (fun i _=>ll-(intOf i).toNat)
 case atStart=>exact⟨0,by omega,rfl,Lib.hid (fun q x y hq=>by omega),Lib.hid (Upto.refl _ _)⟩
 case round =>
  obtain⟨j,hj,rfl,HE,HU⟩:=hrel
  have hj0:(0:Int)≤j:=by omega
  rcases Nat.lt_or_ge j ll with hlt | hge
  ·obtain⟨x,hx⟩:∃x,l[j]?=some x:=⟨_,List.getElem?_eq_getElem (by have:=HLL.out.1;omega)⟩
   obtain⟨y,hy⟩:∃y,l'[j]?=some y:=⟨_,List.getElem?_eq_getElem (by have:=HLL.out.2;omega)⟩
   obtain⟨g,o,xo,xn1,xn2,xn3,xs,xm,xq,xl1,xl2,xl3,rfl,-⟩:=HG.out j x hx
   obtain⟨g',o',yo,yn1,yn2,yn3,ys,ym,yq,yl1,yl2,yl3,rfl,-⟩:=HG'.out j y hy
   obtain⟨g1,o1,xo,xn1,xn2,xn3,xs,xm,xq,xl1,xl2,xl3,e1,c0,c1,c2,c3,c4,c5,hn⟩:=(HG.out.ext HU.out) j x hx
   have hua:=(Upto.refl [] wr).alloc (.cells #[.int .i64 xo,.slice xn1 xn2 xn3,.int .i64 xs,.int .i64 xm,.int .i64 xq,.slice xl1 xl2 xl3] 34)
   obtain⟨g2,o2,yo,yn1,yn2,yn3,ys,ym,yq,yl1,yl2,yl3,e2,d0,d1,d2,d3,d4,d5,hn'⟩:=(HG'.out.ext (HU.out.trans_ext hua)) j y hy
   simp at e1 e2
   obtain⟨rfl,rfl⟩:=e1
   obtain⟨rfl,rfl⟩:=e2
   have hub:=(Upto.refl [] (wr.alloc (.cells #[.int .i64 xo,.slice xn1 xn2 xn3,.int .i64 xs,.int .i64 xm,.int .i64 xq,.slice xl1 xl2 xl3] 34))).alloc (.cells #[.int .i64 yo,.slice yn1 yn2 yn3,.int .i64 ys,.int .i64 ym,.int .i64 yq,.slice yl1 yl2 yl3] 34)
   have HC:=Lib.hid (HIH.out x (List.mem_of_getElem? hx) y (List.mem_of_getElem? hy) _ _ ((wr.alloc (.cells #[.int .i64 xo,.slice xn1 xn2 xn3,.int .i64 xs,.int .i64 xm,.int .i64 xq,.slice xl1 xl2 xl3] 34)).alloc (.cells #[.int .i64 yo,.slice yn1 yn2 yn3,.int .i64 ys,.int .i64 ym,.int .i64 yq,.slice yl1 yl2 yl3] 34)) ((hn.ext hua).ext hub) (hn'.ext hub))
   have HU2:=Lib.hid ((HU.out.trans_ext hua).trans_ext hub)
   have hv8:=hub.at (kAq wr (.cells #[.int .i64 xo,.slice xn1 xn2 xn3,.int .i64 xs,.int .i64 xm,.int .i64 xq,.slice xl1 xl2 xl3] 34)) (by simp)
   obtain⟨t0,t1,t2,t3,t4,t5⟩:=kAx hv8
   obtain⟨u0,u1,u2,u3,u4,u5⟩:=kDk hv8
   have hltI:(j:Int)<ll:=by omega
   have hbb:kPx x y=true∨kPx x y=false:=by cases kPx x y<;>simp
   rcases hbb with hb | hb
   ·have HE2:Hid (∀q x y,q<j+1→l[q]?=some x→l'[q]?=some y→x=y):=Lib.hid (fun q x' y' hq hx' hy'=>by
     by_cases hqi:q=j
     ·subst hqi
      rw [hx] at hx'
      rw [hy] at hy'
      cases hx'
      cases hy'
      exact (sameF_eq x y).1 hb
     ·exact HE.out q x' y' (by omega) hx' hy')
    rw [hb] at HC
    clear hx hy hn hn' hua hub hv8 hb HE
    go_wp2_with fail
    refine HC.out.mono ?_
    rintro e w5 ⟨rfl,hu5⟩
    have HU5:=Lib.hid (HU2.out.trans_ext hu5)
    clear hu5
    go_wp2_with fail
    go_roundw
    case rel=>exact⟨j+1,by omega,by go_num,HE2,HU5⟩
    case measure=>simp [intOf];omega
   ·have HF:Hid (R=false):=Lib.hid (by
     rw [←hR.out,Bool.eq_false_iff]
     intro h
     rw [samesF_eq] at h
     rw [h,hy] at hx
     have:=Option.some.inj hx
     subst this
     rw [(sameF_eq y y).2 rfl] at hb
     cases hb)
    rw [hb] at HC
    clear hx hy hn hn' hua hub hv8 hb HE
    go_wp2_with fail
    refine HC.out.mono ?_
    rintro e w5 ⟨rfl,hu5⟩
    have HU5:=Lib.hid (HU2.out.trans_ext hu5)
    clear hu5
    go_wp2_with fail
    go_ret
    rw [HF.out]
    exact⟨rfl,HU5.out⟩
  ·obtain rfl:j=ll:=by omega
   have hgeI:(j:Int)≥j:=by omega
   have HF:Hid (R=true):=Lib.hid (by
    rw [←hR.out,samesF_eq]
    apply List.ext_getElem?
    intro i
    by_cases hi:i<j
    ·obtain⟨x,hx⟩:∃x,l[i]?=some x:=⟨_,List.getElem?_eq_getElem (by have:=HLL.out.1;omega)⟩
     obtain⟨y,hy⟩:∃y,l'[i]?=some y:=⟨_,List.getElem?_eq_getElem (by have:=HLL.out.2;omega)⟩
     rw [hx,hy,HE.out i x y hi hx hy]
    ·rw [List.getElem?_eq_none (by have:=HLL.out.1;omega),List.getElem?_eq_none (by have:=HLL.out.2;omega)])
   clear HE
   go_wp2
   go_ret
   rw [HF.out]
   exact⟨rfl,HU.out⟩
theorem equal_calls:∀(k:Nat) (x:Nd),kCz x≤k→k≤10000000→bigN x→∀(y:Nd),kCz y≤10000000→bigN y→∀(P P':Nat→Prop) (v v':Value) (w:World),NdV w P x v→NdV w P' y v'→Calls Tryz.prog 28 #[v,v'] w fun e w'=>e=.returned (.bool (kPx x y))∧Upto [] w w'
 | 0,x,hk,_,_=>by have:=kJx x;omega
 | k+1,.mk op xs so n m ls,hk,hk7,hbg=>by
  intro y hy hbg' P P' v v' w h h'
  obtain⟨op',xs',so',n',m',ls'⟩:=y
  obtain⟨a1,c1,a2,c2,rfl,hs,hls⟩:=h.open
  obtain⟨b1,d1,b2,d2,rfl,hs',hls'⟩:=h'.open
  unfold bigN at hbg hbg'
  have hsz:kBk ls≤k:=by simp only [kCz] at hk;omega
  have hln:=kXj ls
  have hsz':kBk ls'≤10000000:=by simp only [kCz] at hy;omega
  have hln':=kXj ls'
  have hu2:Upto [] w ((w.alloc (.cells #[.int .i64 op,.slice a1 xs.length c1,.int .i64 so,.int .i64 n,.int .i64 m,.slice a2 ls.length c2] 34)).alloc (.cells #[.int .i64 op',.slice b1 xs'.length d1,.int .i64 so',.int .i64 n',.int .i64 m',.slice b2 ls'.length d2] 34)):=((Upto.refl [] w).alloc _).alloc _
  have HN:=Lib.hid (names_calls xs xs' _ _ P P' _ hbg.1 hbg'.1 (hs.ext hu2) (hs'.ext hu2))
  have HF:=Lib.hid (fun w1 (hu:Upto [] w w1)=>eqf_calls ls ls' a2 b2 c2 d2 P P' w1 (by omega) (by omega) (hls.ext hu) (hls'.ext hu) (fun x hx y hy u u' w2 hn hn'=>equal_calls k x (by have:=kSx hx;omega) (by omega) (bigs_mem hbg.2 hx) y (by have:=kSx hy;omega) (bigs_mem hbg'.2 hy) P P' u u' w2 hn hn'))
  have HU2:=Lib.hid hu2
  have hb1:=kCx (kAq w (.cells #[.int .i64 op,.slice a1 xs.length c1,.int .i64 so,.int .i64 n,.int .i64 m,.slice a2 ls.length c2] 34)) (.cells #[.int .i64 op',.slice b1 xs'.length d1,.int .i64 so',.int .i64 n',.int .i64 m',.slice b2 ls'.length d2] 34)
  have hb2:=kFz w (.cells #[.int .i64 op,.slice a1 xs.length c1,.int .i64 so,.int .i64 n,.int .i64 m,.slice a2 ls.length c2] 34) (.cells #[.int .i64 op',.slice b1 xs'.length d1,.int .i64 so',.int .i64 n',.int .i64 m',.slice b2 ls'.length d2] 34)
  have HB1:=Lib.hid hb1
  have HB2:=Lib.hid hb2
  obtain⟨x0,x1,x2,x3,x4,x5⟩:=kAx hb1
  obtain⟨y0,y1,y2,y3,y4,y5⟩:=kDk hb1
  obtain⟨z0,z1,z2,z3,z4,z5⟩:=kAx hb2
  obtain⟨t0,t1,t2,t3,t4,t5⟩:=kDk hb2
  clear hs hls hs' hls' hu2 h h' hb1 hb2 hbg hbg' hk hy hsz hsz' hln hln'
  by_cases e0:¬(op=op')
  ·have HF:Hid (kPx (.mk op xs so n m ls) (.mk op' xs' so' n' m' ls')=false):=Lib.hid (by unfold kPx;simp [e0])
   have q1:(op==op')=false:=by rw [beq_eq_false_iff_ne];exact e0
   have q2:(op != op')=true:=by rw [bne,q1];rfl
   clear e0
   go_enter Tryz.func28,Tryz.ntmps28
   go_wp2_with fail
   go_ret
   rw [HF.out]
   exact⟨rfl,HU2.out⟩
  have e0:=Decidable.not_not.1 e0
  subst e0
  have p0:(op==op)=true:=by simp
  by_cases e1:¬(so=so')
  ·have HF:Hid (kPx (.mk op xs so n m ls) (.mk op xs' so' n' m' ls')=false):=Lib.hid (by unfold kPx;simp [e1])
   have q1:(so==so')=false:=by rw [beq_eq_false_iff_ne];exact e1
   have q2:(so != so')=true:=by rw [bne,q1];rfl
   clear e1
   go_enter Tryz.func28,Tryz.ntmps28
   go_wp2_with fail
   go_ret
   rw [HF.out]
   exact⟨rfl,HU2.out⟩
  have e1:=Decidable.not_not.1 e1
  subst e1
  have p1:(so==so)=true:=by simp
  by_cases e2:¬(n=n')
  ·have HF:Hid (kPx (.mk op xs so n m ls) (.mk op xs' so n' m' ls')=false):=Lib.hid (by unfold kPx;simp [e2])
   have q1:(n==n')=false:=by rw [beq_eq_false_iff_ne];exact e2
   have q2:(n != n')=true:=by rw [bne,q1];rfl
   clear e2
   go_enter Tryz.func28,Tryz.ntmps28
   go_wp2_with fail
   go_ret
   rw [HF.out]
   exact⟨rfl,HU2.out⟩
  have e2:=Decidable.not_not.1 e2
  subst e2
  have p2:(n==n)=true:=by simp
  by_cases e3:¬(m=m')
  ·have HF:Hid (kPx (.mk op xs so n m ls) (.mk op xs' so n m' ls')=false):=Lib.hid (by unfold kPx;simp [e3])
   have q1:(m==m')=false:=by rw [beq_eq_false_iff_ne];exact e3
   have q2:(m != m')=true:=by rw [bne,q1];rfl
   clear e3
   go_enter Tryz.func28,Tryz.ntmps28
   go_wp2_with fail
   go_ret
   rw [HF.out]
   exact⟨rfl,HU2.out⟩
  have e3:=Decidable.not_not.1 e3
  subst e3
  have p3:(m==m)=true:=by simp
  by_cases e4:¬(xs=xs')
  ·have HR:Hid (kPx (.mk op xs so n m ls) (.mk op xs' so n m ls')=false):=Lib.hid (by unfold kPx;simp [e4])
   have hd:decide (xs=xs')=false:=by simpa using e4
   rw [hd] at HN
   clear e4 hd
   go_enter Tryz.func28,Tryz.ntmps28
   go_wp2_with fail
   refine HN.out.mono ?_
   rintro e w2 ⟨rfl,hu2⟩
   have HU3:=Lib.hid (HU2.out.trans_ext hu2)
   clear hu2
   go_wp2_with fail
   go_ret
   rw [HR.out]
   exact⟨rfl,HU3.out⟩
  have e4:=Decidable.not_not.1 e4
  subst e4
  have hd:decide (xs=xs)=true:=by simp
  have HR:Hid (kPx (.mk op xs so n m ls) (.mk op xs so n m ls')=samesF ls ls'):=Lib.hid (by unfold kPx;simp)
  rw [hd] at HN
  clear hd
  rw [HR.out]
  generalize samesF ls ls'=R at *
  go_enter Tryz.func28,Tryz.ntmps28
  go_wp2_with fail
  refine HN.out.mono ?_
  rintro e w2 ⟨rfl,hu2⟩
  have hb1:=hu2.at HB1.out (by simp)
  have hb2:=hu2.at HB2.out (by simp)
  obtain⟨u0,u1,u2,u3,u4,u5⟩:=kAx hb1
  obtain⟨uf0,uf1,uf2,uf3,uf4,uf5⟩:=kDk hb1
  obtain⟨r0,r1,r2,r3,r4,r5⟩:=kAx hb2
  obtain⟨rf0,rf1,rf2,rf3,rf4,rf5⟩:=kDk hb2
  have HC:=Lib.hid (HF.out w2 (HU2.out.trans_ext hu2))
  have HU3:=Lib.hid (HU2.out.trans_ext hu2)
  clear hu2 hb1 hb2
  go_wp2_with fail
  refine HC.out.mono ?_
  rintro e w3 ⟨rfl,hu3⟩
  have HU4:=Lib.hid (HU3.out.trans_ext hu3)
  clear hu3
  go_wp2_with fail
  go_ret
  exact⟨rfl,HU4.out⟩
def kYx (q q':Qn):Bool:=decide (q.free=q'.free)&&kPx q.body q'.body
theorem alikeF_eq (q q':Qn):kYx q q'=true↔q=q':=by
 unfold kYx
 rw [Bool.and_eq_true,decide_eq_true_eq,sameF_eq]
 cases q;cases q'
 simp
theorem equalq_calls (q q':Qn) (P P':Nat→Prop) (v v':Value) (w:World) (hf:q.free.length≤10000000) (hs:kCz q.body≤10000000) (hb:bigN q.body) (hf':q'.free.length≤10000000) (hs':kCz q'.body≤10000000) (hb':bigN q'.body) (h:QnV w P q v) (h':QnV w P' q' v') :
  Calls Tryz.prog 26 #[v,v'] w fun e w'=>e=.returned (.bool (kYx q q'))∧Upto [] w w':=by
 obtain⟨f1,f3,o1,a1,a2,a3,s1,n1,m1,l1,l2,l3,rfl,hv,hn⟩:=h.open
 obtain⟨g1,g3,o2,b1,b2,b3,s2,n2,m2,k1,k2,k3,rfl,hv',hn'⟩:=h'.open
 have hu2:Upto [] w ((w.alloc (.cells #[.slice f1 q.free.length f3,.int .i64 o1,.slice a1 a2 a3,.int .i64 s1,.int .i64 n1,.int .i64 m1,.slice l1 l2 l3] 48)).alloc (.cells #[.slice g1 q'.free.length g3,.int .i64 o2,.slice b1 b2 b3,.int .i64 s2,.int .i64 n2,.int .i64 m2,.slice k1 k2 k3] 48)):=((Upto.refl [] w).alloc _).alloc _
 have HN:=Lib.hid (vars_calls q.free q'.free _ _ P P' _ hf hf' (SlP.ext hv hu2) (SlP.ext hv' hu2))
 have HF:=Lib.hid (fun w1 (hu:Upto [] w w1)=>equal_calls _ q.body (Nat.le_refl _) hs hb q'.body hs' hb' P P' _ _ w1 (hn.ext hu) (hn'.ext hu))
 have HU2:=Lib.hid hu2
 have hb1:=kCx (kAq w (.cells #[.slice f1 q.free.length f3,.int .i64 o1,.slice a1 a2 a3,.int .i64 s1,.int .i64 n1,.int .i64 m1,.slice l1 l2 l3] 48)) (.cells #[.slice g1 q'.free.length g3,.int .i64 o2,.slice b1 b2 b3,.int .i64 s2,.int .i64 n2,.int .i64 m2,.slice k1 k2 k3] 48)
 have hb2:=kFz w (.cells #[.slice f1 q.free.length f3,.int .i64 o1,.slice a1 a2 a3,.int .i64 s1,.int .i64 n1,.int .i64 m1,.slice l1 l2 l3] 48) (.cells #[.slice g1 q'.free.length g3,.int .i64 o2,.slice b1 b2 b3,.int .i64 s2,.int .i64 n2,.int .i64 m2,.slice k1 k2 k3] 48)
 have HB1:=Lib.hid hb1
 have HB2:=Lib.hid hb2
 obtain⟨xa0,xa1,xa2,xa3,xa4,xa5,xa6⟩:=kBw hb1
 obtain⟨ya0,ya1,ya2,ya3,ya4,ya5,ya6⟩:=kRk hb1
 obtain⟨xb0,xb1,xb2,xb3,xb4,xb5,xb6⟩:=kBw hb2
 obtain⟨yb0,yb1,yb2,yb3,yb4,yb5,yb6⟩:=kRk hb2
 clear hv hn hv' hn' hu2 h h' hb1 hb2 hb hf hs hb' hf' hs'
 by_cases e4:¬(q.free=q'.free)
 ·have HR:Hid (kYx q q'=false):=Lib.hid (by unfold kYx;simp [e4])
  have hd:decide (q.free=q'.free)=false:=by simpa using e4
  rw [hd] at HN
  rw [HR.out]
  clear e4 hd
  go_enter Tryz.func26,Tryz.ntmps26
  go_wp2_with fail
  refine HN.out.mono ?_
  rintro e w2 ⟨rfl,hu2⟩
  have HU3:=Lib.hid (HU2.out.trans_ext hu2)
  clear hu2
  go_wp2_with fail
  go_ret
  exact⟨rfl,HU3.out⟩
 have e4:=Decidable.not_not.1 e4
 have hd:decide (q.free=q'.free)=true:=by simpa using e4
 have HR:Hid (kYx q q'=kPx q.body q'.body):=Lib.hid (by unfold kYx;rw [hd];rfl)
 rw [hd] at HN
 rw [HR.out]
 clear hd HR e4
 generalize kPx q.body q'.body=R at *
 go_enter Tryz.func26,Tryz.ntmps26
 go_wp2_with fail
 refine HN.out.mono ?_
 rintro e w2 ⟨rfl,hu2⟩
 have hb1:=hu2.at HB1.out (by simp)
 have hb2:=hu2.at HB2.out (by simp)
 obtain⟨pa0,pa1,pa2,pa3,pa4,pa5,pa6⟩:=kBw hb1
 obtain⟨qa0,qa1,qa2,qa3,qa4,qa5,qa6⟩:=kRk hb1
 obtain⟨pb0,pb1,pb2,pb3,pb4,pb5,pb6⟩:=kBw hb2
 obtain⟨qb0,qb1,qb2,qb3,qb4,qb5,qb6⟩:=kRk hb2
 have HC:=Lib.hid (HF.out w2 (HU2.out.trans_ext hu2))
 have HU3:=Lib.hid (HU2.out.trans_ext hu2)
 clear hu2 hb1 hb2
 go_wp2_with fail
 refine HC.out.mono ?_
 rintro e w3 ⟨rfl,hu3⟩
 have HU4:=Lib.hid (HU3.out.trans_ext hu3)
 clear hu3
 go_wp2_with fail
 go_ret
 exact⟨rfl,HU4.out⟩
theorem fmpost_fin {w W:World} {Bq Bp:Nat} {r:PR} {P:Nat→Prop} {a b c d e f x0 x1 x2 x3 x4 x5 y0 y1:Value} (hu:Upto [] w W) (hBq:w.heap.size≤Bq) (hBp:w.heap.size≤Bp) (hne:Bq≠Bp) (hn:NdV W P r.q.body (.agg #[a,b,c,d,e,f]))
  (hP:∀b,P b→IsC W b→New w b∧b≠Bq∧b≠Bp) (hz:W.heap[Bq]?=some (.cells #[x0,x1,x2,x3,x4,x5] 34 (0,0))) (hy:W.heap[Bp]?=some (.cells #[y0,y1] 36 (0,0))) :
  FmPost w r (.returned (.tuple #[.agg #[a,b,c,d,e,f],.agg #[.int .i64 r.line,.int .i64 r.col],.int .i64 r.er])) ((((((((W.setCell ⟨Bq,0,none⟩ a).setCell ⟨Bq,1,none⟩ b).setCell ⟨Bq,2,none⟩ c).setCell ⟨Bq,3,none⟩ d).setCell ⟨Bq,4,none⟩ e).setCell ⟨Bq,5,none⟩ f).setCell ⟨Bp,0,none⟩ (.int .i64 r.line)).setCell ⟨Bp,1,none⟩ (.int .i64 r.col)) ∧
  ((((((((W.setCell ⟨Bq,0,none⟩ a).setCell ⟨Bq,1,none⟩ b).setCell ⟨Bq,2,none⟩ c).setCell ⟨Bq,3,none⟩ d).setCell ⟨Bq,4,none⟩ e).setCell ⟨Bq,5,none⟩ f).setCell ⟨Bp,0,none⟩ (.int .i64 r.line)).setCell ⟨Bp,1,none⟩ (.int .i64 r.col)).heap[Bq]?=some (.cells #[a,b,c,d,e,f] 34 (0,0))∧((((((((W.setCell ⟨Bq,0,none⟩ a).setCell ⟨Bq,1,none⟩ b).setCell ⟨Bq,2,none⟩ c).setCell ⟨Bq,3,none⟩ d).setCell ⟨Bq,4,none⟩ e).setCell ⟨Bq,5,none⟩ f).setCell ⟨Bp,0,none⟩ (.int .i64 r.line)).setCell ⟨Bp,1,none⟩ (.int .i64 r.col)).heap[Bp]?=some (.cells #[.int .i64 r.line,.int .i64 r.col] 36 (0,0)):=by
 have h7:=kEz hz a b c d e f
 have u7:=nd_self W Bq a b c d e f
 have hy7:=u7.at hy (by simp;omega)
 have u2:Upto [Bp] ((((((W.setCell ⟨Bq,0,none⟩ a).setCell ⟨Bq,1,none⟩ b).setCell ⟨Bq,2,none⟩ c).setCell ⟨Bq,3,none⟩ d).setCell ⟨Bq,4,none⟩ e).setCell ⟨Bq,5,none⟩ f) ((((((((W.setCell ⟨Bq,0,none⟩ a).setCell ⟨Bq,1,none⟩ b).setCell ⟨Bq,2,none⟩ c).setCell ⟨Bq,3,none⟩ d).setCell ⟨Bq,4,none⟩ e).setCell ⟨Bq,5,none⟩ f).setCell ⟨Bp,0,none⟩ (.int .i64 r.line)).setCell ⟨Bp,1,none⟩ (.int .i64 r.col)):=((Upto.refl _ _).setCell (Or.inl (by simp)) _).setCell (Or.inl (by simp)) _
 have h2:=p_store hy7 (.int .i64 r.line) (.int .i64 r.col)
 refine⟨⟨_,rfl,NdV.keep ⟨Nat.le_trans u7.size u2.size,fun b hb hl=>?_⟩ _ _ hn,((nd_up hu (Or.inr hBq) a b c d e f).setCell (Or.inr (by simpa using hBp)) _).setCell (Or.inr (by simpa using hBp)) _⟩,u2.at h7 (by simpa using hne),h2⟩
 obtain⟨k1,k2,k3⟩:=hP b hb hl
 exact⟨k1,(u2.block b (Nat.lt_of_lt_of_le hl.lt u7.size) (by simpa using k3)).trans (u7.block b hl.lt (by simpa using k2))⟩
theorem parseFormula_calls (x:List UInt8) (hl:x.length≤281474976710656) (w:World) (he:Env w) (hs:SEnv w):Calls Tryz.prog 22 #[.string ⟨x.toArray⟩] w (FmPost w (kGx bareP x)):=by
 have hu0:Upto [] w ((w.alloc (.cells #[.int .i64 0,.slice none 0 0,.int .i64 0,.int .i64 0,.int .i64 0,.slice none 0 0] 34)).alloc (.cells #[.int .i64 0,.int .i64 0] 36)):=((Upto.refl [] w).alloc _).alloc _
 have HU0:=Lib.hid hu0
 have HBQ:Hid (((w.alloc (.cells #[.int .i64 0,.slice none 0 0,.int .i64 0,.int .i64 0,.int .i64 0,.slice none 0 0] 34)).alloc (.cells #[.int .i64 0,.int .i64 0] 36)).heap[w.heap.size]?=some (.cells #[.int .i64 0,.slice none 0 0,.int .i64 0,.int .i64 0,.int .i64 0,.slice none 0 0] 34 (0,0))):=Lib.hid (kCx (kAq _ _) _)
 have HBP:Hid (((w.alloc (.cells #[.int .i64 0,.slice none 0 0,.int .i64 0,.int .i64 0,.int .i64 0,.slice none 0 0] 34)).alloc (.cells #[.int .i64 0,.int .i64 0] 36)).heap[w.heap.size+1]?=some (.cells #[.int .i64 0,.int .i64 0] 36 (0,0))):=Lib.hid (kFz _ _ _)
 have HC:=Lib.hid (read_calls x hl 57 bareP ((w.alloc (.cells #[.int .i64 0,.slice none 0 0,.int .i64 0,.int .i64 0,.int .i64 0,.slice none 0 0] 34)).alloc (.cells #[.int .i64 0,.int .i64 0] 36)) (he.ext hu0) (hs.upto hu0 (by simp)) (kMq Tryz.func57 (by kernel_rfl) rfl)
  (fun l hf h0=>by obtain⟨q,s',e,a,z,-⟩:=bareP_ok hf h0;exact⟨q,s',e,a,z⟩)
  (fun w p l q s' htx hX hR hqp=>bare1_calls w p l htx ⟨0,0,0⟩ s' q hX hR (by decide) hqp))
 clear hu0 he hs
 go_enter Tryz.func22,Tryz.ntmps22
 go_wp2_with fail
 refine HC.out.mono ?_
 rintro e w2 ⟨vv,rfl,hqv,hu2⟩
 obtain⟨g1,g2,g3,oa,na1,na2,na3,sa,ma,qa,la1,la2,la3,rfl⟩:=hqv.seven
 obtain⟨vf,a0,a1,a2,a3,a4,a5,eqn,-,hnv⟩:=hqv
 simp only [Value.agg.injEq,Array.mk.injEq,List.cons.injEq,and_true] at eqn
 obtain⟨rfl,rfl,rfl,rfl,rfl,rfl,rfl⟩:=eqn
 have hua:=((Upto.refl [] w2).alloc (.cells #[.slice g1 g2 g3,.int .i64 oa,.slice na1 na2 na3,.int .i64 sa,.int .i64 ma,.int .i64 qa,.slice la1 la2 la3] 48)).alloc (.cells #[.int .i64 (kGx bareP x).line,.int .i64 (kGx bareP x).col] 36)
 have hbq:=hua.at (hu2.at HBQ.out (by simp)) (by simp)
 have hbp:=hua.at (hu2.at HBP.out (by simp)) (by simp)
 have hb5:((w2.alloc (.cells #[.slice g1 g2 g3,.int .i64 oa,.slice na1 na2 na3,.int .i64 sa,.int .i64 ma,.int .i64 qa,.slice la1 la2 la3] 48)).alloc (.cells #[.int .i64 (kGx bareP x).line,.int .i64 (kGx bareP x).col] 36)).heap[w2.heap.size]?=some (.cells #[.slice g1 g2 g3,.int .i64 oa,.slice na1 na2 na3,.int .i64 sa,.int .i64 ma,.int .i64 qa,.slice la1 la2 la3] 48 (0,0)):=kCx (kAq _ _) _
 have hb6:((w2.alloc (.cells #[.slice g1 g2 g3,.int .i64 oa,.slice na1 na2 na3,.int .i64 sa,.int .i64 ma,.int .i64 qa,.slice la1 la2 la3] 48)).alloc (.cells #[.int .i64 (kGx bareP x).line,.int .i64 (kGx bareP x).col] 36)).heap[w2.heap.size+1]?=some (.cells #[.int .i64 (kGx bareP x).line,.int .i64 (kGx bareP x).col] 36 (0,0)):=kFz _ _ _
 obtain⟨z0,z1,z2,z3,z4,z5⟩:=kAx hbq
 obtain⟨y0,y1,y2,y3,y4,y5⟩:=kDk hbq
 obtain⟨d0,d1⟩:=kKx hbp
 obtain⟨f0,f1⟩:=kRz hbp
 obtain⟨g0,g1,g2,g3,g4,g5,g6⟩:=kBw hb5
 obtain⟨h0,h1,h2,h3,h4,h5,h6⟩:=kRk hb5
 obtain⟨i0,i1⟩:=kKx hb6
 obtain⟨j0,j1⟩:=kRz hb6
 have hbqd:=((Upto.refl [] _).drew).at hbq (by simp)
 obtain⟨zz0,zz1,zz2,zz3,zz4,zz5⟩:=kAx hbqd
 obtain⟨yy0,yy1,yy2,yy3,yy4,yy5⟩:=kDk hbqd
 clear hbqd
 have hbpd:=((Upto.refl [] _).drew).at hbp (by simp)
 obtain⟨dd0,dd1⟩:=kKx hbpd
 obtain⟨ff0,ff1⟩:=kRz hbpd
 clear hbpd
 have hb5d:=((Upto.refl [] _).drew).at hb5 (by simp)
 obtain⟨gg0,gg1,gg2,gg3,gg4,gg5,gg6⟩:=kBw hb5d
 obtain⟨hh0,hh1,hh2,hh3,hh4,hh5,hh6⟩:=kRk hb5d
 clear hb5d
 have hb6d:=((Upto.refl [] _).drew).at hb6 (by simp)
 obtain⟨ii0,ii1⟩:=kKx hb6d
 obtain⟨jj0,jj1⟩:=kRz hb6d
 clear hb6d
 have hz2:=kAk (hu2.at HBP.out (by simp))
 have n1:w.heap.size≠w2.heap.size:=by omega
 have n2:w.heap.size≠w2.heap.size+1:=by omega
 have n3:w.heap.size+1≠w2.heap.size:=by omega
 have n4:w.heap.size+1≠w2.heap.size+1:=by omega
 have n5:=n1.symm
 have n6:=n2.symm
 have n7:=n3.symm
 have n8:=n4.symm
 have HF:=Lib.hid (fmpost_fin (r:=kGx bareP x) (P:=New ((w.alloc (.cells #[.int .i64 0,.slice none 0 0,.int .i64 0,.int .i64 0,.int .i64 0,.slice none 0 0] 34)).alloc (.cells #[.int .i64 0,.int .i64 0] 36))) ((HU0.out.trans_ext hu2).trans_ext hua) (Nat.le_refl _) (by omega:w.heap.size≤w.heap.size+1) (by omega) (hnv.ext hua) (fun b hb _=>by unfold New at hb ⊢;simp at hb;omega) hbq hbp)
 clear hbq hbp hb5 hb6 hu2 hnv hua hz2 HC
 go_wp2_with fail
 go_region
 all_goals (
  go_wp2_with fail
  have hb7:=((Upto.refl [] _).drew).at HF.out.2.1 (by simp)
  have hb2:=((Upto.refl [] _).drew).at HF.out.2.2 (by simp)
  have q0:=kAz hb7 0
  have q1:=kAz hb7 1
  have q2:=kAz hb7 2
  have q3:=kAz hb7 3
  have q4:=kAz hb7 4
  have q5:=kAz hb7 5
  have p0:=kAz hb2 0
  have p1:=kAz hb2 1
  simp only [List.getElem?_toArray,List.getElem?_cons_zero,List.getElem?_cons_succ] at q0 q1 q2 q3 q4 q5 p0 p1
  exact bodyPost_ret (v:=.tuple #[.agg #[.int .i64 oa,.slice na1 na2 na3,.int .i64 sa,.int .i64 ma,.int .i64 qa,.slice la1 la2 la3],.agg #[.int .i64 (kGx bareP x).line,.int .i64 (kGx bareP x).col],.int .i64 (kGx bareP x).er]) (by simp [results,Tryz.results22,go_sem,q0,q1,q2,q3,q4,q5,p0,p1]) rfl HF.out.1.drew)
end Go.Proofs.YtkhbpebpljdifaaGreatDoor
