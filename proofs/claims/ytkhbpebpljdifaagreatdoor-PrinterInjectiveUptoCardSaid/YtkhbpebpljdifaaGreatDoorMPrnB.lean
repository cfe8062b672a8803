/- Merged texts. -/
import Derived.Test.YtkhbpebpljdifaaGreatDoorMPri
set_option maxRecDepth 100000
set_option maxHeartbeats 25600000
namespace Go.Proofs.YtkhbpebpljdifaaGreatDoor
open Go.PL
theorem lvs_get (last:Bool):∀(l:List Nd) (i:Nat),(∀x∈l,lvF last x≤2*kNw x)→(lvsF last l).getD i 0≤2*kLz l
 | [],i,_=>by simp [lvsF]
 | x::xs,0,h=>by
  have:=h x (by simp)
  simp only [lvsF,List.getD_cons_zero,kLz]
  omega
 | x::xs,i+1,h=>by
  have:=lvs_get last xs i (fun y hy=>h y (by simp [hy]))
  simp only [lvsF,List.getD_cons_succ,kLz]
  omega
theorem parL_le (b:Bool) (t u:Nat):parL b t u≤max (1+t) u:=by
 cases b
 ·simp only [parL,if_false,Bool.false_eq_true];omega
 ·simp only [parL,if_true];omega
theorem lv_le:∀(k:Nat) (nd:Nd),kCz nd≤k→∀last,lvF last nd≤2*kNw nd
 | 0,nd,hn,_=>by have:=kRw nd;omega
 | k+1,.mk op names so n m ls,hn,last=>by
  unfold kCz at hn
  have hall:∀(last:Bool),∀x∈ls,lvF last x≤2*kNw x:=fun last x hx=>lv_le k x (by have:=sizes_mem hx;omega) last
  have hg:=fun last i=>lvs_get last ls i (hall last)
  unfold lvF kNw
  have h00:=hg true 0
  have h01:=hg true 1
  have h10:=hg false 0
  have h11:=hg last 0
  have h12:=hg last 1
  have p1:=parL_le (parB 11 0 (opNd ls 0) last) ((lvsF true ls).getD 0 0) ((lvsF last ls).getD 0 0)
  have p2:=parL_le (parB op 0 (opNd ls 0) false) ((lvsF true ls).getD 0 0) ((lvsF false ls).getD 0 0)
  have p3:=parL_le (parB op 1 (opNd ls 1) last) ((lvsF true ls).getD 1 0) ((lvsF last ls).getD 1 0)
  by_cases h1:op<11
  ·rw [if_pos h1];omega
  rw [if_neg h1]
  by_cases h2:op=11
  ·rw [if_pos h2];omega
  rw [if_neg h2]
  by_cases h3:op<16
  ·rw [if_pos h3];omega
  ·rw [if_neg h3];omega
end Go.Proofs.YtkhbpebpljdifaaGreatDoor
namespace Go.Proofs.YtkhbpebpljdifaaGreatDoor
open Go.RowKit Go.PL Go.Maps
mutual
def kPx:Nd→Nd→Bool
 | .mk op xs so n m l,.mk op' xs' so' n' m' l'=>decide (op=op')&&decide (so=so')&&decide (n=n')&&decide (m=m')&&decide (xs=xs')&&samesF l l'
def samesF:List Nd→List Nd→Bool
 | [],[]=>true
 | x::r,y::t=>kPx x y&&samesF r t
 | [],_::_=>false
 | _::_,[]=>false
end
mutual
theorem sameF_eq:∀(a b:Nd),kPx a b=true↔a=b
 | .mk op xs so n m l,.mk op' xs' so' n' m' l'=>by
  unfold kPx
  simp only [Bool.and_eq_true,decide_eq_true_eq,samesF_eq l l',Nd.mk.injEq]
  constructor
  ·rintro⟨⟨⟨⟨⟨h1,h2⟩,h3⟩,h4⟩,h5⟩,h6⟩;exact⟨h1,h5,h2,h3,h4,h6⟩
  ·rintro⟨h1,h5,h2,h3,h4,h6⟩;exact⟨⟨⟨⟨⟨h1,h2⟩,h3⟩,h4⟩,h5⟩,h6⟩
theorem samesF_eq:∀(a b:List Nd),samesF a b=true↔a=b
 | [],[]=>by simp [samesF]
 | x::r,y::t=>by
  unfold samesF
  simp only [Bool.and_eq_true,sameF_eq x y,samesF_eq r t,List.cons.injEq]
 | [],_::_=>by simp [samesF]
 | _::_,[]=>by simp [samesF]
end
mutual
def hugeN:Nd→Prop
 | .mk _ names _ _ _ l=>names.length≤281474976710656∧l.length≤281474976710656∧hugesN l
def hugesN:List Nd→Prop
 | []=>True
 | x::xs=>hugeN x∧hugesN xs
end
theorem huges_mem:∀{l:List Nd} {x:Nd},hugesN l→x∈l→hugeN x
 | a::l,x,h,hx=>by
  unfold hugesN at h
  rcases List.mem_cons.1 hx with rfl | hx
  ·exact h.1
  ·exact huges_mem h.2 hx
theorem len_size:∀(l:List Nd),l.length≤kBk l
 | []=>by simp
 | x::l=>by have:=len_size l;have:=kJx x;simp only [kBk,List.length_cons];omega
mutual
theorem huge_of:∀(n:Nd),kCz n≤10000000→bigN n→hugeN n
 | .mk _ names _ _ _ l,hs,hb=>by
  unfold bigN at hb
  unfold hugeN
  simp only [kCz] at hs
  have:=len_size l
  exact⟨by omega,by omega,huges_of l (by omega) hb.2⟩
theorem huges_of:∀(l:List Nd),kBk l≤10000000→bigsN l→hugesN l
 | [],_,_=>by unfold hugesN;trivial
 | x::l,hs,hb=>by
  unfold bigsN at hb
  unfold hugesN
  simp only [kBk] at hs
  exact⟨huge_of x (by omega) hb.1,huges_of l (by omega) hb.2⟩
end
theorem nd_open {w:World} {P:Nat→Prop} {op so n m:Int} {xs:List (List UInt8)} {ls:List Nd} {v:Value} (h:NdV w P (.mk op xs so n m ls) v):∃na nc la lc,v=.agg #[.int .i64 op,.slice na xs.length nc,.int .i64 so,.int .i64 n,.int .i64 m,.slice la ls.length lc] ∧
  (∀i x,xs[i]?=some x→∃g o,na=some ⟨g,o,none⟩∧w.cell? ⟨g,o+i,none⟩=some (.string ⟨x.toArray⟩)) ∧
  (∀i x,ls[i]?=some x→∃g o v0 v1 v2 v3 v4 v5,la=some ⟨g,o,none⟩∧w.cell? ⟨g,o+i*6,none⟩=some v0∧w.cell? ⟨g,o+i*6+1,none⟩=some v1∧w.cell? ⟨g,o+i*6+2,none⟩=some v2∧w.cell? ⟨g,o+i*6+3,none⟩=some v3∧w.cell? ⟨g,o+i*6+4,none⟩=some v4∧w.cell? ⟨g,o+i*6+5,none⟩=some v5∧NdV w P x (.agg #[v0,v1,v2,v3,v4,v5])):=by
 unfold NdV at h
 obtain⟨vn,vl,rfl,hs,hl⟩:=h
 obtain⟨na,nc,rfl,hg⟩:=hs.get
 have hg':∀i x,xs[i]?=some x→∃g o,na=some ⟨g,o,none⟩∧w.cell? ⟨g,o+i,none⟩=some (.string ⟨x.toArray⟩):=fun i x hi=>hg i _ (by rw [List.getElem?_map,hi];rfl)
 rcases hl with⟨rfl,a,c,rfl⟩ | ⟨g,o,c,rfl,-,hd⟩
 ·exact⟨na,nc,a,c,rfl,hg',fun i x hi=>by simp at hi⟩
 ·refine⟨na,nc,_,c,rfl,hg',fun i x hi=>?_⟩
  obtain⟨v0,v1,v2,v3,v4,v5,c0,c1,c2,c3,c4,c5,hn⟩:=NdsV.get ls o i x hd hi
  exact⟨g,o,v0,v1,v2,v3,v4,v5,rfl,c0,c1,c2,c3,c4,c5,hn⟩
theorem six_form {w:World} {P:Nat→Prop} {x:Nd} {v0 v1 v2 v3 v4 v5:Value} (h:NdV w P x (.agg #[v0,v1,v2,v3,v4,v5])):∃(op:Int) (a1:Option Addr) (n1 c1:Nat) (so n m:Int) (a2:Option Addr) (n2 c2:Nat),v0=.int .i64 op∧v1=.slice a1 n1 c1∧v2=.int .i64 so∧v3=.int .i64 n∧v4=.int .i64 m∧v5=.slice a2 n2 c2:=by
 obtain⟨op,a1,n1,c1,so,n,m,a2,n2,c2,e⟩:=h.six
 simp only [Value.agg.injEq,Array.mk.injEq,List.cons.injEq,and_true] at e
 exact⟨op,a1,n1,c1,so,n,m,a2,n2,c2,e.1,e.2.1,e.2.2.1,e.2.2.2.1,e.2.2.2.2.1,e.2.2.2.2.2⟩
theorem same_calls:∀(k:Nat) (a:Nd),kCz a≤k→hugeN a→∀(b:Nd) (P P':Nat→Prop) (v v':Value) (w:World),NdV w P a v→NdV w P' b v'→Calls Tryz.prog 23 #[v,v'] w fun e w'=>e=.returned (.bool (kPx a b))∧Upto [] w w'
 | 0,a,hn,_=>by have:=kJx a;omega
 | k+1,.mk op xs so n m ls,hn,hh=>by
  intro b P P' v v' w h h'
  obtain⟨op',xs',so',n',m',ls'⟩:=b
  obtain⟨na,nc,la,lc,rfl,hgn,hgl⟩:=nd_open h
  obtain⟨na',nc',la',lc',rfl,hgn',hgl'⟩:=nd_open h'
  clear h h'
  unfold hugeN at hh
  obtain⟨hx48,hl48,hhs⟩:=hh
  simp only [kCz] at hn
  have HIH:Hid (∀(x:Nd),x∈ls→∀(b:Nd) (P P':Nat→Prop) (v v':Value) (w:World),NdV w P x v→NdV w P' b v'→Calls Tryz.prog 23 #[v,v'] w fun e w'=>e=.returned (.bool (kPx x b))∧Upto [] w w'):=Lib.hid (fun x hx=>same_calls k x (by have:=sizes_memb hx;omega) (huges_mem hhs hx))
  clear hn hhs
  have hu2:Upto [] w ((w.alloc (.cells #[.int .i64 op,.slice na xs.length nc,.int .i64 so,.int .i64 n,.int .i64 m,.slice la ls.length lc] 25)).alloc (.cells #[.int .i64 op',.slice na' xs'.length nc',.int .i64 so',.int .i64 n',.int .i64 m',.slice la' ls'.length lc'] 25)):=((Upto.refl [] w).alloc _).alloc _
  have hb1:=kCx (kAq w (.cells #[.int .i64 op,.slice na xs.length nc,.int .i64 so,.int .i64 n,.int .i64 m,.slice la ls.length lc] 25)) (.cells #[.int .i64 op',.slice na' xs'.length nc',.int .i64 so',.int .i64 n',.int .i64 m',.slice la' ls'.length lc'] 25)
  have hb2:=kFz w (.cells #[.int .i64 op,.slice na xs.length nc,.int .i64 so,.int .i64 n,.int .i64 m,.slice la ls.length lc] 25) (.cells #[.int .i64 op',.slice na' xs'.length nc',.int .i64 so',.int .i64 n',.int .i64 m',.slice la' ls'.length lc'] 25)
  have HU2:=Lib.hid hu2
  have HB1:=Lib.hid hb1
  have HB2:=Lib.hid hb2
  have HN:=Lib.hid hgn
  have HN':=Lib.hid hgn'
  have HL:=Lib.hid hgl
  have HL':=Lib.hid hgl'
  obtain⟨xa0,xa1,xa2,xa3,xa4,xa5⟩:=kAx hb1
  obtain⟨xb0,xb1,xb2,xb3,xb4,xb5⟩:=kAx hb2
  have n0:(0:Int)≤xs.length:=by omega
  have n1:(xs.length:Int)≤281474976710656:=by omega
  have l0:(0:Int)≤ls.length:=by omega
  have l1:(ls.length:Int)≤281474976710656:=by omega
  clear hu2 hb1 hb2 hgn hgn' hgl hgl'
  by_cases e0:¬(op=op')
  ·have HF:Hid (kPx (.mk op xs so n m ls) (.mk op' xs' so' n' m' ls')=false):=Lib.hid (by unfold kPx;simp [e0])
   have q1:(op==op')=false:=by rw [beq_eq_false_iff_ne];exact e0
   have q2:(op != op')=true:=by rw [bne,q1];rfl
   clear e0
   go_enter Tryz.func23,Tryz.ntmps23
   go_wp2_with fail
   go_ret
   rw [HF.out]
   exact⟨rfl,HU2.out⟩
  have e0:=Decidable.not_not.1 e0
  subst e0
  by_cases e1:¬(so=so')
  ·have HF:Hid (kPx (.mk op xs so n m ls) (.mk op xs' so' n' m' ls')=false):=Lib.hid (by unfold kPx;simp [e1])
   have q1:(so==so')=false:=by rw [beq_eq_false_iff_ne];exact e1
   have q2:(so != so')=true:=by rw [bne,q1];rfl
   clear e1
   go_enter Tryz.func23,Tryz.ntmps23
   go_wp2_with fail
   go_ret
   rw [HF.out]
   exact⟨rfl,HU2.out⟩
  have e1:=Decidable.not_not.1 e1
  subst e1
  by_cases e2:¬(n=n')
  ·have HF:Hid (kPx (.mk op xs so n m ls) (.mk op xs' so n' m' ls')=false):=Lib.hid (by unfold kPx;simp [e2])
   have q1:(n==n')=false:=by rw [beq_eq_false_iff_ne];exact e2
   have q2:(n != n')=true:=by rw [bne,q1];rfl
   clear e2
   go_enter Tryz.func23,Tryz.ntmps23
   go_wp2_with fail
   go_ret
   rw [HF.out]
   exact⟨rfl,HU2.out⟩
  have e2:=Decidable.not_not.1 e2
  subst e2
  by_cases e3:¬(m=m')
  ·have HF:Hid (kPx (.mk op xs so n m ls) (.mk op xs' so n m' ls')=false):=Lib.hid (by unfold kPx;simp [e3])
   have q1:(m==m')=false:=by rw [beq_eq_false_iff_ne];exact e3
   have q2:(m != m')=true:=by rw [bne,q1];rfl
   clear e3
   go_enter Tryz.func23,Tryz.ntmps23
   go_wp2_with fail
   go_ret
   rw [HF.out]
   exact⟨rfl,HU2.out⟩
  have e3:=Decidable.not_not.1 e3
  subst e3
  by_cases e4:¬(xs.length=xs'.length)
  ·have HF:Hid (kPx (.mk op xs so n m ls) (.mk op xs' so n m ls')=false):=Lib.hid (by
    unfold kPx
    have:xs≠xs':=fun h=>e4 (by rw [h])
    simp [this])
   have q1:((xs.length:Int)==(xs'.length:Int))=false:=by rw [beq_eq_false_iff_ne];omega
   have q2:((xs.length:Int) != (xs'.length:Int))=true:=by rw [bne,q1];rfl
   clear e4
   go_enter Tryz.func23,Tryz.ntmps23
   go_wp2_with fail
   go_ret
   rw [HF.out]
   exact⟨rfl,HU2.out⟩
  have e4:=Decidable.not_not.1 e4
  by_cases e5:¬(ls.length=ls'.length)
  ·have HF:Hid (kPx (.mk op xs so n m ls) (.mk op xs' so n m ls')=false):=Lib.hid (by
    unfold kPx
    have:samesF ls ls'=false:=by
     rw [Bool.eq_false_iff]
     intro h
     rw [samesF_eq] at h
     exact e5 (by rw [h])
    simp [this])
   have q0:((xs.length:Int) != (xs'.length:Int))=false:=by rw [e4];simp
   have q1:((ls.length:Int)==(ls'.length:Int))=false:=by rw [beq_eq_false_iff_ne];omega
   have q2:((ls.length:Int) != (ls'.length:Int))=true:=by rw [bne,q1];rfl
   clear e4 e5
   go_enter Tryz.func23,Tryz.ntmps23
   go_wp2_with fail
   go_ret
   rw [HF.out]
   exact⟨rfl,HU2.out⟩
  have e5:=Decidable.not_not.1 e5
  have q0:((xs.length:Int) != (xs'.length:Int))=false:=by rw [e4];simp
  have q00:((ls.length:Int) != (ls'.length:Int))=false:=by rw [e5];simp
  have E4:=Lib.hid e4
  have E5:=Lib.hid e5
  clear e4 e5
  go_enter Tryz.func23,Tryz.ntmps23
  go_wp2_with fail
  generalize hW2:(w.alloc (.cells #[.int .i64 op,.slice na xs.length nc,.int .i64 so,.int .i64 n,.int .i64 m,.slice la ls.length lc] 25)).alloc (.cells #[.int .i64 op,.slice na' xs'.length nc',.int .i64 so,.int .i64 n,.int .i64 m,.slice la' ls'.length lc'] 25)=W2 at *
  clear hW2
  go_loopw [5] (fun t5 wr=>∃j:Nat,j≤xs.length∧t5=.int .i64 j∧Hid (∀i,i<j→xs[i]?=xs'[i]?)∧Hid (Upto [] W2 wr)) (fun t5 _=>xs.length-(intOf t5).toNat)
  case atStart=>exact⟨0,by omega,rfl,Lib.hid (fun i hi=>by omega),Lib.hid (Upto.refl _ _)⟩
  case round =>
   obtain⟨j,hj,rfl,HE,HU⟩:=hrel
   have hj0:(0:Int)≤j:=by omega
   have h1:=HU.out.at HB1.out (by simp)
   have h2:=HU.out.at HB2.out (by simp)
   have hd:=(Upto.refl [] wr).drew
   have h3:=hd.at h1 (by simp)
   have h4:=hd.at h2 (by simp)
   have y1:=kAz h1 1
   have y2:=kAz h2 1
   have y3:=kAz h3 1
   have y4:=kAz h4 1
   have z1:=kAz h1 5
   have z2:=kAz h2 5
   simp only [List.getElem?_toArray,List.getElem?_cons_zero,List.getElem?_cons_succ] at y1 y2 y3 y4 z1 z2
   rcases Nat.lt_or_ge j xs.length with hlt | hge
   ·have hltI:(j:Int)<xs.length:=by omega
    have hltJ:(j:Int)<xs'.length:=by have:=E4.out;omega
    obtain⟨x,hx⟩:∃x,xs[j]?=some x:=⟨_,List.getElem?_eq_getElem hlt⟩
    obtain⟨y,hy⟩:∃y,xs'[j]?=some y:=⟨_,List.getElem?_eq_getElem (by have:=E4.out;omega)⟩
    obtain⟨g,og,rfl,c0⟩:=HN.out j x hx
    obtain⟨g',og',rfl,c1⟩:=HN'.out j y hy
    have hw:=HU2.out.trans_ext HU.out
    replace c0:=kAw hw c0
    replace c1:=kAw hw c1
    have d0:=(hd.cell (p:=⟨g,og+j,none⟩) (World.block_lt_of_cell? wr _ c0) (by simp)).trans c0
    have d1:=(hd.cell (p:=⟨g',og'+j,none⟩) (World.block_lt_of_cell? wr _ c1) (by simp)).trans c1
    have HD:=Lib.hid (HU.out.trans_ext hd)
    by_cases hxy:x=y
    ·subst hxy
     have HE2:Hid (∀i,i<j+1→xs[i]?=xs'[i]?):=Lib.hid (fun i hi=>by
      by_cases hij:i=j
      ·subst hij;rw [hx,hy]
      ·exact HE.out i (by omega))
     clear hx hy hd h1 h2 h3 h4 HE hw
     go_wp2_with fail
     go_region
     all_goals (
      go_wp2_with fail
      go_roundw
      case rel=>exact⟨j+1,by omega,by go_num,HE2,HD⟩
      case measure=>simp [intOf];omega)
    ·have HF:Hid (kPx (.mk op xs so n m ls) (.mk op xs' so n m ls')=false):=Lib.hid (by
      unfold kPx
      have:xs≠xs':=fun h=>by
       rw [h,hy] at hx
       exact hxy (Option.some.inj hx).symm
      simp [this])
     have q1:(x==y)=false:=by simpa using hxy
     have q2:(x != y)=true:=by rw [bne,q1];rfl
     have HW:=Lib.hid (HU2.out.trans_ext HD.out)
     clear hx hy hd h1 h2 h3 h4 HE hw hxy
     go_wp2_with fail
     go_region
     all_goals (
      go_wp2_with fail
      go_ret
      rw [HF.out]
      exact⟨rfl,HW.out⟩)
   ·have hgeI:¬(j:Int)<xs.length:=by omega
    obtain rfl:xs=xs':=by
     apply List.ext_getElem?
     intro i
     by_cases hi:i<j
     ·exact HE.out i hi
     ·rw [List.getElem?_eq_none (by omega),List.getElem?_eq_none (by have:=E4.out;omega)]
    have HUA:=Lib.hid (HU2.out.trans_ext HU.out)
    have HA1:=Lib.hid h1
    have HA2:=Lib.hid h2
    clear hd h1 h2 h3 h4 y3 y4 HE HU HB1 HB2
    go_wp2_with fail
    go_loopw [6] (fun t6 wx=>∃i:Nat,i≤ls.length∧t6=.int .i64 i∧Hid (∀q x y,q<i→ls[q]?=some x→ls'[q]?=some y→x=y)∧Hid (Upto [] wr wx)) (fun t6 _=>ls.length-(intOf t6).toNat)
    case atStart=>exact⟨0,by omega,rfl,Lib.hid (fun q x y hq=>by omega),Lib.hid (Upto.refl _ _)⟩
    case round =>
     clear y1 y2 z1 z2
     obtain⟨i,hi,rfl,HE,HU⟩:=hrel
     have hi0:(0:Int)≤i:=by omega
     have h1:=HU.out.at HA1.out (by simp)
     have h2:=HU.out.at HA2.out (by simp)
     have z1:=kAz h1 5
     have z2:=kAz h2 5
     simp only [List.getElem?_toArray,List.getElem?_cons_zero,List.getElem?_cons_succ] at z1 z2
     have HW:=Lib.hid (HUA.out.trans_ext HU.out)
     rcases Nat.lt_or_ge i ls.length with hlt | hge
     ·have hltI:(i:Int)<ls.length:=by omega
      have hltJ:(i:Int)<ls'.length:=by have:=E5.out;omega
      obtain⟨x,hx⟩:∃x,ls[i]?=some x:=⟨_,List.getElem?_eq_getElem hlt⟩
      obtain⟨y,hy⟩:∃y,ls'[i]?=some y:=⟨_,List.getElem?_eq_getElem (by have:=E5.out;omega)⟩
      obtain⟨g,og,v0,v1,v2,v3,v4,v5,rfl,c0,c1,c2,c3,c4,c5,hnx⟩:=HL.out i x hx
      obtain⟨g',og',u0,u1,u2,u3,u4,u5,rfl,d0,d1,d2,d3,d4,d5,hny⟩:=HL'.out i y hy
      obtain⟨r1,r2,r3,r4,r5,r6,r7,r8,r9,r10,rfl,rfl,rfl,rfl,rfl,rfl⟩:=six_form hnx
      obtain⟨s1,s2,s3,s4,s5,s6,s7,s8,s9,s10,rfl,rfl,rfl,rfl,rfl,rfl⟩:=six_form hny
      have hC:∀u,Upto [] wr u→Calls Tryz.prog 23 #[.agg #[.int .i64 r1,.slice r2 r3 r4,.int .i64 r5,.int .i64 r6,.int .i64 r7,.slice r8 r9 r10],.agg #[.int .i64 s1,.slice s2 s3 s4,.int .i64 s5,.int .i64 s6,.int .i64 s7,.slice s8 s9 s10]] u fun e w'=>e=.returned (.bool (kPx x y))∧Upto [] u w':=fun u hu=>HIH.out x (List.mem_of_getElem? hx) y _ _ _ _ u (hnx.ext (HW.out.trans_ext hu)) (hny.ext (HW.out.trans_ext hu))
      replace c0:=kAw HW.out c0
      replace c1:=kAw HW.out c1
      replace c2:=kAw HW.out c2
      replace c3:=kAw HW.out c3
      replace c4:=kAw HW.out c4
      replace c5:=kAw HW.out c5
      replace d0:=kAw HW.out d0
      replace d1:=kAw HW.out d1
      replace d2:=kAw HW.out d2
      replace d3:=kAw HW.out d3
      replace d4:=kAw HW.out d4
      replace d5:=kAw HW.out d5
      have ec0:=fun u:Ext wr=>u.cell c0
      have ec1:=fun u:Ext wr=>u.cell c1
      have ec2:=fun u:Ext wr=>u.cell c2
      have ec3:=fun u:Ext wr=>u.cell c3
      have ec4:=fun u:Ext wr=>u.cell c4
      have ec5:=fun u:Ext wr=>u.cell c5
      have ed0:=fun u:Ext wr=>u.cell d0
      have ed1:=fun u:Ext wr=>u.cell d1
      have ed2:=fun u:Ext wr=>u.cell d2
      have ed3:=fun u:Ext wr=>u.cell d3
      have ed4:=fun u:Ext wr=>u.cell d4
      have ed5:=fun u:Ext wr=>u.cell d5
      have ez1:=fun u:Ext wr=>u.cell z1
      have ez2:=fun u:Ext wr=>u.cell z2
      have HC:=Lib.hid hC
      have hbb:kPx x y=true∨kPx x y=false:=by cases kPx x y<;>simp
      rcases hbb with hb | hb
      ·have HE2:Hid (∀q x y,q<i+1→ls[q]?=some x→ls'[q]?=some y→x=y):=Lib.hid (fun q x' y' hq hx' hy'=>by
        by_cases hqi:q=i
        ·subst hqi
         rw [hx] at hx'
         rw [hy] at hy'
         cases hx'
         cases hy'
         exact (sameF_eq x y).1 hb
        ·exact HE.out q x' y' (by omega) hx' hy')
       rw [hb] at HC
       clear hx hy hnx hny h1 h2 HE hC hb
       go_wp2_with fail
       refine kFx [10] [] [0,1,2,3,4,5,6,7,8,9,10,11] (by kernel_rfl) (by kernel_rfl) ?_
       iterate 10 (refine kCq rfl rfl rfl rfl rfl ?_;intro K' hK';go_big_quiet_op;go_big_quiet_on)
       refine kMw rfl rfl rfl rfl (fun w=>by go_simp) (fun w hu hd=>HC.out w hu) ?_
       simp only [Act.put,List.setIfInBounds_toArray,List.set_cons_zero,List.set_cons_succ]
       (refine kCq rfl rfl rfl rfl rfl ?_;intro K' hK';go_big_quiet_op;go_big_quiet_on)
       intro w9 hg
       have HW9:=Lib.hid (HU.out.trans_ext hg.up)
       clear hg
       go_wp2_with fail
       go_roundw
       case rel=>exact⟨i+1,by omega,by go_num,HE2,HW9⟩
       case measure=>simp [intOf];omega
      ·have HF:Hid (kPx (.mk op xs so n m ls) (.mk op xs so n m ls')=false):=Lib.hid (by
        rw [Bool.eq_false_iff]
        intro h
        rw [sameF_eq] at h
        injection h with _ _ _ _ _ h6
        rw [h6,hy] at hx
        have:=Option.some.inj hx
        subst this
        rw [(sameF_eq y y).2 rfl] at hb
        cases hb)
       rw [hb] at HC
       clear hx hy hnx hny h1 h2 HE hC hb
       go_wp2_with fail
       refine kFx [10] [] [0,1,2,3,4,5,6,7,8,9,10,11] (by kernel_rfl) (by kernel_rfl) ?_
       iterate 10 (refine kCq rfl rfl rfl rfl rfl ?_;intro K' hK';go_big_quiet_op;go_big_quiet_on)
       refine kMw rfl rfl rfl rfl (fun w=>by go_simp) (fun w hu hd=>HC.out w hu) ?_
       simp only [Act.put,List.setIfInBounds_toArray,List.set_cons_zero,List.set_cons_succ]
       (refine kCq rfl rfl rfl rfl rfl ?_;intro K' hK';go_big_quiet_op;go_big_quiet_on)
       intro w9 hg
       have HW9:=Lib.hid (HW.out.trans_ext hg.up)
       clear hg
       go_wp2_with fail
       go_ret
       rw [HF.out]
       exact⟨rfl,HW9.out⟩
     ·have hgeI:¬(i:Int)<ls.length:=by omega
      obtain rfl:ls=ls':=by
       apply List.ext_getElem?
       intro q
       by_cases hq:q<ls.length
       ·rw [List.getElem?_eq_getElem hq,List.getElem?_eq_getElem (by have:=E5.out;omega)]
        congr 1
        exact HE.out q _ _ (by omega) (List.getElem?_eq_getElem hq) (List.getElem?_eq_getElem _)
       ·rw [List.getElem?_eq_none (by omega),List.getElem?_eq_none (by have:=E5.out;omega)]
      clear h1 h2 HE
      go_wp2_with fail
      go_ret
      rw [(sameF_eq _ _).2 rfl]
      exact⟨rfl,HW.out⟩
def kYx (q q':Qn):Bool:=decide (q.free=q'.free)&&kPx q.body q'.body
theorem alikeF_eq (q q':Qn):kYx q q'=true↔q=q':=by
 unfold kYx
 rw [Bool.and_eq_true,decide_eq_true_eq,sameF_eq]
 cases q;cases q'
 simp
theorem alike_calls (q q':Qn) (P P':Nat→Prop) (v v':Value) (w:World) (hf:q.free.length≤10000000) (hb:hugeN q.body) (_hf':q'.free.length≤10000000) (h:QnV w P q v) (h':QnV w P' q' v') :
  Calls Tryz.prog 27 #[v,v'] w fun e w'=>e=.returned (.bool (kYx q q'))∧Upto [] w w':=by
 obtain⟨f1,f3,o1,a1,a2,a3,s1,n1,m1,l1,l2,l3,rfl,hv,hn⟩:=h.open
 obtain⟨g1,g3,o2,b1,b2,b3,s2,n2,m2,k1,k2,k3,rfl,hv',hn'⟩:=h'.open
 have hu2:Upto [] w ((w.alloc (.cells #[.slice f1 q.free.length f3,.int .i64 o1,.slice a1 a2 a3,.int .i64 s1,.int .i64 n1,.int .i64 m1,.slice l1 l2 l3] 45)).alloc (.cells #[.slice g1 q'.free.length g3,.int .i64 o2,.slice b1 b2 b3,.int .i64 s2,.int .i64 n2,.int .i64 m2,.slice k1 k2 k3] 45)):=((Upto.refl [] w).alloc _).alloc _
 have HU2:=Lib.hid hu2
 have hb1:=kCx (kAq w (.cells #[.slice f1 q.free.length f3,.int .i64 o1,.slice a1 a2 a3,.int .i64 s1,.int .i64 n1,.int .i64 m1,.slice l1 l2 l3] 45)) (.cells #[.slice g1 q'.free.length g3,.int .i64 o2,.slice b1 b2 b3,.int .i64 s2,.int .i64 n2,.int .i64 m2,.slice k1 k2 k3] 45)
 have hb2:=kFz w (.cells #[.slice f1 q.free.length f3,.int .i64 o1,.slice a1 a2 a3,.int .i64 s1,.int .i64 n1,.int .i64 m1,.slice l1 l2 l3] 45) (.cells #[.slice g1 q'.free.length g3,.int .i64 o2,.slice b1 b2 b3,.int .i64 s2,.int .i64 n2,.int .i64 m2,.slice k1 k2 k3] 45)
 have HB1:=Lib.hid hb1
 have HB2:=Lib.hid hb2
 have HG:=Lib.hid (kWj hv)
 have HG':=Lib.hid (kWj hv')
 have HSM:=Lib.hid (fun u (hu:Upto [] w u)=>same_calls _ q.body (Nat.le_refl _) hb q'.body P P' _ _ u (hn.ext hu) (hn'.ext hu))
 obtain⟨xa0,xa1,xa2,xa3,xa4,xa5,xa6⟩:=kBw hb1
 obtain⟨xb0,xb1,xb2,xb3,xb4,xb5,xb6⟩:=kBw hb2
 clear h h' hv hv' hn hn' hb hu2 hb1 hb2
 by_cases hne:q.free.length≠q'.free.length
 ·have HF:Hid (kYx q q'=false):=Lib.hid (by unfold kYx;rw [decide_eq_false (fun e=>hne (by rw [e]))];rfl)
  rw [HF.out]
  generalize hA:q.free.length=A at *
  generalize hB:q'.free.length=B at *
  have q1:((A:Int)==(B:Int))=false:=by rw [beq_eq_false_iff_ne];omega
  have q2:((A:Int) != (B:Int))=true:=by rw [bne,q1];rfl
  clear hne HF hA hB
  go_enter Tryz.func27,Tryz.ntmps27
  go_wp2_with fail
  go_ret
  exact⟨rfl,HU2.out⟩
 have hne:=Decidable.not_not.1 hne
 have HNE:=Lib.hid hne
 have q2:((q.free.length:Int) != (q'.free.length:Int))=false:=by rw [hne];simp
 have hL0:(0:Int)≤q.free.length:=by omega
 have hL1:(q.free.length:Int)≤10000000:=by omega
 clear hne hf _hf'
 go_enter Tryz.func27,Tryz.ntmps27
 go_wp2_with fail
 generalize hW2:((w.alloc (.cells #[.slice f1 q.free.length f3,.int .i64 o1,.slice a1 a2 a3,.int .i64 s1,.int .i64 n1,.int .i64 m1,.slice l1 l2 l3] 45)).alloc (.cells #[.slice g1 q'.free.length g3,.int .i64 o2,.slice b1 b2 b3,.int .i64 s2,.int .i64 n2,.int .i64 m2,.slice k1 k2 k3] 45))=W2 at *
 clear hW2
 go_loopw [5] (fun i wr=>∃j:Nat,j≤q.free.length∧i=.int .i64 j∧Hid (∀p,p<j→q.free[p]?=q'.free[p]?)∧Hid (Upto [] W2 wr)) (fun i _=>q.free.length-(intOf i).toNat)
 case atStart=>exact⟨0,by omega,rfl,Lib.hid (fun p hp=>by omega),Lib.hid (Upto.refl _ _)⟩
 case round =>
  obtain⟨j,hj,rfl,HE,HU⟩:=hrel
  have hj0:(0:Int)≤j:=by omega
  have h1:=HU.out.at HB1.out (by simp)
  have h2:=HU.out.at HB2.out (by simp)
  have hd:=(Upto.refl [] wr).drew
  have h3:=hd.at h1 (by simp)
  have h4:=hd.at h2 (by simp)
  obtain⟨pa0,pa1,pa2,pa3,pa4,pa5,pa6⟩:=kBw h1
  obtain⟨pb0,pb1,pb2,pb3,pb4,pb5,pb6⟩:=kBw h2
  have s0:=kAz h3 0
  have t0:=kAz h4 0
  simp only [List.getElem?_toArray,List.getElem?_cons_zero] at s0 t0
  have HW:=Lib.hid (HU2.out.trans_ext HU.out)
  rcases Nat.lt_or_ge j q.free.length with hlt | hge
  ·have hltI:(j:Int)<q.free.length:=by omega
   have hltJ:(j:Int)<q'.free.length:=by have:=HNE.out;omega
   obtain⟨x,hx⟩:∃x,q.free[j]?=some x:=⟨_,List.getElem?_eq_getElem hlt⟩
   obtain⟨y,hy⟩:∃y,q'.free[j]?=some y:=⟨_,List.getElem?_eq_getElem (by have:=HNE.out;omega)⟩
   obtain⟨g,o,rfl,c0,c1⟩:=HG.out j x hx
   obtain⟨g',o',rfl,c2,c3⟩:=HG'.out j y hy
   replace c0:=kAw HW.out c0
   replace c1:=kAw HW.out c1
   replace c2:=kAw HW.out c2
   replace c3:=kAw HW.out c3
   have d0:=(hd.cell (p:=⟨g,o+j*2,none⟩) (World.block_lt_of_cell? wr _ c0) (by simp)).trans c0
   have d1:=(hd.cell (p:=⟨g,o+j*2+1,none⟩) (World.block_lt_of_cell? wr _ c1) (by simp)).trans c1
   have d2:=(hd.cell (p:=⟨g',o'+j*2,none⟩) (World.block_lt_of_cell? wr _ c2) (by simp)).trans c2
   have d3:=(hd.cell (p:=⟨g',o'+j*2+1,none⟩) (World.block_lt_of_cell? wr _ c3) (by simp)).trans c3
   have HD:=Lib.hid (HU.out.trans_ext hd)
   have HDW:=Lib.hid (HW.out.trans_ext hd)
   obtain⟨x1,x2⟩:=x
   obtain⟨y1,y2⟩:=y
   simp only at c0 c1 c2 c3 d0 d1 d2 d3
   have HNF:(¬(x1=y1∧x2=y2))→kYx q q'=false:=fun hn=>by
    unfold kYx
    rw [decide_eq_false]
    ·rfl
    ·intro e
     rw [e,hy] at hx
     have:=Option.some.inj hx
     simp at this
     exact hn ⟨this.1.symm,this.2.symm⟩
   by_cases hxy:x1=y1
   ·by_cases hxy2:x2=y2
    ·subst hxy hxy2
     have HE2:Hid (∀p,p<j+1→q.free[p]?=q'.free[p]?):=Lib.hid (fun p hp=>by
      by_cases hqj:p=j
      ·subst hqj;rw [hx,hy]
      ·exact HE.out p (by omega))
     clear hx hy hd HE h1 h2 h3 h4 HNF
     go_wp2_with fail
     go_region
     all_goals (
      go_wp2_with fail
      go_roundw
      case rel=>exact⟨j+1,by omega,by go_num,HE2,HD⟩
      case measure=>simp [intOf];omega)
    ·have HF:=Lib.hid (HNF (fun e=>hxy2 e.2))
     subst hxy
     have q1:(x2==y2)=false:=by rw [beq_eq_false_iff_ne];exact hxy2
     have q3:(x2 != y2)=true:=by rw [bne,q1];rfl
     clear hx hy hd HE h1 h2 h3 h4 HNF
     go_wp2_with fail
     go_region
     all_goals (
      go_wp2_with fail
      go_ret
      rw [HF.out]
      exact⟨rfl,HDW.out⟩)
   ·have HF:=Lib.hid (HNF (fun e=>hxy e.1))
    have q1:(x1==y1)=false:=by simpa using hxy
    have q3:(x1 != y1)=true:=by rw [bne,q1];rfl
    clear hx hy hd HE h1 h2 h3 h4 HNF
    go_wp2_with fail
    go_region
    all_goals (
     go_wp2_with fail
     go_ret
     rw [HF.out]
     exact⟨rfl,HDW.out⟩)
  ·have hgeI:¬(j:Int)<q.free.length:=by omega
   have HF:Hid (kYx q q'=kPx q.body q'.body):=Lib.hid (by
    unfold kYx
    rw [decide_eq_true]
    ·rfl
    ·apply List.ext_getElem?
     intro i
     by_cases hi:i<j
     ·exact HE.out i hi
     ·rw [List.getElem?_eq_none (by omega),List.getElem?_eq_none (by have:=HNE.out;omega)])
   have HC:=Lib.hid (HSM.out wr HW.out)
   clear hd h1 h2 h3 h4 s0 t0
   go_wp2_with fail
   refine HC.out.mono ?_
   rintro e w5 ⟨rfl,hu5⟩
   have HU5:=Lib.hid (HW.out.trans_ext hu5)
   clear hu5
   go_wp2_with fail
   go_ret
   rw [HF.out]
   exact⟨rfl,HU5.out⟩
end Go.Proofs.YtkhbpebpljdifaaGreatDoor
