/- Merged texts. -/
import Derived.Test.YtkhbpebpljdifaaGreatDoorMPrg
set_option maxRecDepth 100000
set_option maxHeartbeats 25600000
namespace Go.Proofs.YtkhbpebpljdifaaGreatDoor
open Go.RowKit Go.PL Go.Maps
open Go.ChangeShapes Go.WideShapes Go.ChangeAt Go.Deep
theorem bulk_pos {H:Type} (d:DataW H):1≤Rows.uptoBulk d:=by
 cases d with
 | lit l=>cases l<;>simp [Rows.uptoBulk]
 | nil=>simp [Rows.uptoBulk]
 | ptr d=>simp [Rows.uptoBulk]
 | slice elems spare=>simp [Rows.uptoBulk]
 | agg parts=>simp [Rows.uptoBulk]
 | iface t d=>simp [Rows.uptoBulk]
 | map entries=>simp [Rows.uptoBulk]
 | held h=>simp [Rows.uptoBulk]
theorem bulk_part {H:Type} {d:DataW H} {l:List (DataW H)} (h:d∈l):Rows.uptoBulk d≤Rows.uptoBulkAll l:=by
 induction l with
 | nil=>cases h
 | cons x r ih =>
  simp only [Rows.uptoBulkAll]
  cases List.mem_cons.1 h with
  | inl e=>subst e;omega
  | inr e=>have:=ih e;omega
theorem bulk_len {H:Type} (l:List (DataW H)):l.length≤Rows.uptoBulkAll l:=by
 induction l with
 | nil=>simp [Rows.uptoBulkAll]
 | cons x r ih=>have:=bulk_pos x;simp only [Rows.uptoBulkAll,List.length_cons];omega
mutual
def inN (M:Nat):Nd→Prop
 | .mk _ names _ _ _ l=>names.length≤M∧(∀x∈names,x.length≤M)∧l.length≤M∧insN M l
def insN (M:Nat):List Nd→Prop
 | []=>True
 | x::xs=>inN M x∧insN M xs
end
mutual
theorem inN.mono {M M':Nat} (h:M≤M'):∀(n:Nd),inN M n→inN M' n
 | .mk _ _ _ _ _ l,hn=>by
  unfold inN at hn ⊢
  exact⟨by omega,fun x hx=>Nat.le_trans (hn.2.1 x hx) h,by omega,insN.mono h l hn.2.2.2⟩
theorem insN.mono {M M':Nat} (h:M≤M'):∀(l:List Nd),insN M l→insN M' l
 | [],_=>by unfold insN;trivial
 | x::xs,hn=>by
  unfold insN at hn ⊢
  exact⟨inN.mono h x hn.1,insN.mono h xs hn.2⟩
end
theorem insN_of {M:Nat}:∀{l:List Nd},(∀x∈l,inN M x)→insN M l
 | [],_=>by unfold insN;trivial
 | x::xs,h=>by
  unfold insN
  exact⟨h x (by simp),insN_of (fun y hy=>h y (by simp [hy]))⟩
mutual
theorem inN.big {M:Nat} (h:M≤10000000):∀(n:Nd),inN M n→bigN n
 | .mk _ _ _ _ _ l,hn=>by
  unfold inN at hn
  unfold bigN
  exact⟨by omega,insN.big h l hn.2.2.2⟩
theorem insN.big {M:Nat} (h:M≤10000000):∀(l:List Nd),insN M l→bigsN l
 | [],_=>by unfold bigsN;trivial
 | x::xs,hn=>by
  unfold insN at hn
  unfold bigsN
  exact⟨inN.big h x hn.1,insN.big h xs hn.2⟩
end
def AnyB:Nat→Prop:=fun _=>True
instance:Inhabited Nd:=⟨.zero⟩
section
variable {H:Type} {enc:TypeId×Value→H} {W:World}
theorem cells_spot {ad:Addr} {n:Nat} {cs:List Value} (h:W.cells? 0 ad n=some cs) (hn:0<n):ad.spot=none∧cs.length=n∧∀i,i<n→W.cell? ⟨ad.block,ad.off+i,none⟩=cs[i]?:=by
 obtain⟨_,hlen,hat⟩:=World.cells?_some h
 have h0:=hat 0 hn
 have hs:ad.spot=none:=by
  obtain⟨u,hu⟩:∃u,cs[0]?=some u:=⟨_,List.getElem?_eq_getElem (by omega)⟩
  rw [hu] at h0
  have:=World.cell?_spot h0
  simpa [Addr.add] using this
 refine⟨hs,hlen,fun i hi=>?_⟩
 have:=hat i hi
 obtain⟨b,off,spot⟩:=ad
 simp only at hs
 subst hs
 rwa [Addr.add_lit] at this
theorem isC_of_cell {w:World} {b o:Nat} {u:Value} (h:w.cell? ⟨b,o,none⟩=some u):IsC w b:=by
 unfold World.cell? at h
 simp only at h
 cases hb:w.heap[b]? with
 | none=>rw [hb] at h;cases h
 | some x =>
  rw [hb] at h
  cases x with
  | cells c e z=>exact⟨c,e,z,hb⟩
  | _=>simp at h
theorem open_els {t e z fuel:Nat} {α:Type} [Inhabited α] {R:α→List Value→Prop} {M:Nat} (ht:Tryz.prog.underlying t=some (.slice e)) (hz:Tryz.prog.cellsOf e=z) (hz0:0<z) {v:Value} {x:DataW H×List MemPlace}
  (h:DataW.trod enc Tryz.prog W 0 (fun _=>true) true fuel t [v]=some x) (hM:Rows.uptoBulk x.1≤M)
  (f:α→Nat) (hel:∀n cs y,cs.length=z→DataW.trod enc Tryz.prog W 0 (fun _=>true) true n e cs=some y→Rows.uptoBulk y.1<M→∃a,R a cs∧f a≤Rows.uptoBulk y.1) :
  ∃l:List α,l.length+1≤M∧(l.map f).sum+1≤M∧((l=[]∧∃a c,v=.slice a 0 c)∨∃g o c,v=.slice (some ⟨g,o,none⟩) l.length c∧(AnyB g∧IsC W g∧l.length≤c)∧∀i a,l[i]?=some a→∃cs,R a cs∧cs.length=z∧∀j,j<z→W.cell? ⟨g,o+i*z+j,none⟩=cs[j]?):=by
 rcases open_slice ht h with⟨hcs,hx⟩ | ⟨ad,len,cap,m,n',D,Pl,hcs,_,hl,hm,hmm,hx,hcell⟩
 ·obtain rfl:v=.slice none 0 0:=by simpa using hcs
  subst hx
  simp only [Rows.uptoBulk] at hM
  exact⟨[],by simpa using hM,by simpa using hM,Or.inl ⟨rfl,none,0,rfl⟩⟩
 ·obtain rfl:v=.slice (some ad) len cap:=by simpa using hcs
  subst hx
  simp only [Rows.uptoBulk] at hM
  simp only [if_true] at hmm
  rw [hz] at hcell
  have hlb:=bulk_len ((List.range len).map D)
  simp only [List.length_map,List.length_range] at hlb
  have hD:∀i,i<len→Rows.uptoBulk (D i)<M:=fun i hi=>by
   have:=bulk_part (l:=(List.range len).map D) (List.mem_map_of_mem (List.mem_range.2 hi))
   omega
  obtain⟨F,hF⟩:=choose_lt (α:=α) (n:=len) (p:=fun i a=>∃cs,W.cells? 0 (ad.add (i*z)) z=some cs∧R a cs∧f a≤Rows.uptoBulk (D i)) (fun i hi=>by
   obtain⟨cs,h1,h2⟩:=hcell i (by omega)
   obtain⟨_,hlen,_⟩:=World.cells?_some h1
   obtain⟨a,h3,h4⟩:=hel n' cs _ hlen h2 (hD i hi)
   exact⟨a,cs,h1,h3,h4⟩)
  have hsum:∀k,k≤len→(((List.range k).map F).map f).sum≤Rows.uptoBulkAll ((List.range k).map D):=by
   have happ:∀(a b:List (DataW H)),Rows.uptoBulkAll (a++b)=Rows.uptoBulkAll a+Rows.uptoBulkAll b:=by
    intro a b
    induction a with
    | nil=>simp [Rows.uptoBulkAll]
    | cons x a ih=>simp only [List.cons_append,Rows.uptoBulkAll,ih];omega
   intro k
   induction k with
   | zero=>intro _;simp
   | succ k ih =>
    intro hk
    obtain⟨cs,_,_,h4⟩:=hF k (by omega)
    have:=ih (by omega)
    simp only [List.range_succ,List.map_append,List.sum_append,List.map_cons,List.map_nil,List.sum_cons,List.sum_nil,happ,Rows.uptoBulkAll]
    omega
  have hs:=hsum len (Nat.le_refl _)
  refine⟨(List.range len).map F,by simp only [List.length_map,List.length_range];omega,by omega,?_⟩
  rcases Nat.eq_zero_or_pos len with h0 | h0
  ·subst h0
   exact Or.inl ⟨rfl,some ad,cap,rfl⟩
  ·obtain⟨cs0,h1,-⟩:=hF 0 h0
   obtain⟨hsp,hlen0,hat0⟩:=cells_spot h1 hz0
   obtain⟨b,off,spot⟩:=ad
   have hspot:spot=none:=by simpa [Addr.add] using hsp
   subst hspot
   simp only [Nat.zero_mul,Addr.add_lit,Nat.add_zero] at hat0
   have hc0:=hat0 0 hz0
   have hIs:IsC W b:=by
    obtain⟨u,hu⟩:∃u,cs0[0]?=some u:=⟨_,List.getElem?_eq_getElem (by omega)⟩
    rw [hu] at hc0
    exact isC_of_cell hc0
   refine Or.inr ⟨b,off,cap,by simp,⟨trivial,hIs,by simpa using hl⟩,fun i a hi=>?_⟩
   have hil:i<len:=by
    have:=(List.getElem?_eq_some_iff.1 hi).1
    simpa using this
   rw [List.getElem?_map,List.getElem?_range hil] at hi
   obtain rfl:F i=a:=by simpa using hi
   obtain⟨cs,k1,k2,-⟩:=hF i hil
   obtain⟨-,hlen,hat⟩:=cells_spot k1 hz0
   refine⟨cs,k2,hlen,fun j hj=>?_⟩
   have:=hat j hj
   simpa [Addr.add_lit] using this
theorem open_names {fuel:Nat} {v:Value} {x:DataW H×List MemPlace} {M:Nat} (h:DataW.trod enc Tryz.prog W 0 (fun _=>true) true fuel 22 [v]=some x) (hM:Rows.uptoBulk x.1≤M) :
  ∃names:List (List UInt8),SlP W AnyB v names.length (names.map sV)∧names.length≤M∧∀y∈names,y.length≤M:=by
 obtain⟨l,h1,h2,h3⟩:=open_els (α:=List UInt8) (R:=fun a cs=>cs=[sV a]) (M:=M) Tryz.underlying22 (z:=1) (by kernel_rfl) (by decide) h hM List.length (fun n cs y hl hy hlt=>by
  obtain⟨s,rfl,hd,-⟩:=DataW.trod_string Tryz.underlying9 hy
  refine⟨s.data.toList,by simp [sV],?_⟩
  rw [hd]
  simp [Rows.uptoBulk])
 refine⟨l,?_,by omega,fun y hy=>?_⟩
 ·rcases h3 with⟨rfl,a,c,rfl⟩ | ⟨g,o,c,rfl,hg,hc⟩
  ·exact Or.inl ⟨rfl,rfl,a,c,rfl⟩
  ·refine Or.inr ⟨g,o,c,rfl,hg,fun j u hj=>?_⟩
   rw [List.getElem?_map] at hj
   obtain⟨y,hy,rfl⟩:=Option.map_eq_some_iff.1 hj
   obtain⟨cs,rfl,-,hat⟩:=hc j y hy
   simpa using hat 0 (by decide)
 ·have:∀(l:List (List UInt8)),y∈l→y.length≤(l.map List.length).sum:=by
   intro l
   induction l with
   | nil=>intro h;cases h
   | cons a l ih =>
    intro hy
    rcases List.mem_cons.1 hy with rfl | hy
    ·simp
    ·have:=ih hy;simp only [List.map_cons,List.sum_cons];omega
  have:=this l hy
  omega
theorem open_node:∀(M fuel:Nat) (cs:List Value) (x:DataW H×List MemPlace),cs.length=6→DataW.trod enc Tryz.prog W 0 (fun _=>true) true fuel 25 cs=some x→Rows.uptoBulk x.1≤M →
  ∃nd,NdV W AnyB nd (.agg cs.toArray)∧kCz nd≤Rows.uptoBulk x.1∧inN M nd
 | 0,fuel,cs,x,_,_,hM=>by have:=bulk_pos x.1;omega
 | M+1,fuel,cs,x,hl,h,hM=>by
  obtain⟨xs,n,rfl,rfl,_,hlen,hf⟩:=DataW.trod_struct Tryz.underlying25 h
  match cs,hl with
  | [a,b,c,d,e,f],_ =>
   match xs,hlen with
   | [y0,y1,y2,y3,y4,y5],_ =>
    have f0:=hf 0 { name:= "Op",type:=3,offset:=0,embedded:=false,tag:= "",pkgPath:= "",byteOffset:=0 } rfl
    have f1:=hf 1 { name:= "Names",type:=22,offset:=1,embedded:=false,tag:= "",pkgPath:= "",byteOffset:=8 } rfl
    have f2:=hf 2 { name:= "Sort",type:=3,offset:=2,embedded:=false,tag:= "",pkgPath:= "",byteOffset:=32 } rfl
    have f3:=hf 3 { name:= "N",type:=3,offset:=3,embedded:=false,tag:= "",pkgPath:= "",byteOffset:=40 } rfl
    have f4:=hf 4 { name:= "M",type:=3,offset:=4,embedded:=false,tag:= "",pkgPath:= "",byteOffset:=48 } rfl
    have f5:=hf 5 { name:= "L",type:=23,offset:=5,embedded:=false,tag:= "",pkgPath:= "",byteOffset:=56 } rfl
    simp only [show Tryz.prog.cellsOf 3=1 by kernel_rfl,show Tryz.prog.cellsOf 22=1 by kernel_rfl,show Tryz.prog.cellsOf 23=1 by kernel_rfl] at f0 f1 f2 f3 f4 f5
    simp at f0 f1 f2 f3 f4 f5
    simp only [List.map_cons,List.map_nil,Rows.uptoBulk,Rows.uptoBulkAll] at hM ⊢
    obtain⟨op,hop,-⟩:=DataW.trod_int Tryz.underlying3 f0
    obtain⟨so,hso,-⟩:=DataW.trod_int Tryz.underlying3 f2
    obtain⟨nn,hnn,-⟩:=DataW.trod_int Tryz.underlying3 f3
    obtain⟨mm,hmm,-⟩:=DataW.trod_int Tryz.underlying3 f4
    simp at hop hso hnn hmm
    obtain⟨names,hn1,hn2,hn3⟩:=open_names f1 (M:=M) (by have:=bulk_pos y0.1;omega)
    obtain⟨l,hl1,hl2,hl3⟩:=open_els (α:=Nd) (R:=fun a cs=>NdV W AnyB a (.agg cs.toArray)∧inN M a) (M:=Rows.uptoBulk y5.1) Tryz.underlying23 (z:=6) (by kernel_rfl) (by decide) f5 (Nat.le_refl _) kCz (fun n cs y hl hy hlt=>by
     obtain⟨nd,k1,k2,k3⟩:=open_node M n cs y hl hy (by omega)
     exact⟨nd,⟨k1,k3⟩,k2⟩)
    have hss:kBk l=(l.map kCz).sum:=by
     clear hl1 hl2 hl3
     induction l with
     | nil=>rfl
     | cons a l ih=>simp only [kBk,List.map_cons,List.sum_cons,ih]
    refine⟨.mk op names so nn mm l,?_,?_,?_⟩
    ·unfold NdV
     refine⟨b,f,by rw [hop,hso,hnn,hmm],hn1,?_⟩
     rcases hl3 with⟨rfl,a,c,rfl⟩ | ⟨g,o,c,rfl,hg,hc⟩
     ·exact Or.inl ⟨rfl,a,c,rfl⟩
     ·refine Or.inr ⟨g,o,c,rfl,⟨hg.1,hg.2.1⟩,nds_of l o fun i x hi=>?_⟩
      obtain⟨cs,⟨k1,-⟩,hcl,hat⟩:=hc i x hi
      match cs,hcl with
      | [u0,u1,u2,u3,u4,u5],_ =>
       exact⟨u0,u1,u2,u3,u4,u5,hat 0 (by decide),hat 1 (by decide),hat 2 (by decide),hat 3 (by decide),hat 4 (by decide),hat 5 (by decide),k1⟩
    ·simp only [kCz,hss];omega
    ·unfold inN
     refine⟨by omega,fun x hx=>by have:=hn3 x hx;omega,by omega,insN_of fun x hx=>?_⟩
     rcases hl3 with⟨rfl,-⟩ | ⟨g,o,c,rfl,hg,hc⟩
     ·cases hx
     ·obtain⟨i,hi,rfl⟩:=List.mem_iff_getElem.1 hx
      obtain⟨cs,⟨-,k2⟩,-⟩:=hc i _ (List.getElem?_eq_getElem hi)
      exact inN.mono (by omega) _ k2
theorem open_vars {fuel:Nat} {v:Value} {x:DataW H×List MemPlace} {M:Nat} (h:DataW.trod enc Tryz.prog W 0 (fun _=>true) true fuel 43 [v]=some x) (hM:Rows.uptoBulk x.1≤M) :
  ∃f:List (List UInt8×Int),VarsV W AnyB v f∧f.length≤M∧∀y∈f,y.1.length≤M:=by
 obtain⟨l,h1,h2,h3⟩:=open_els (α:=List UInt8×Int) (R:=fun a cs=>cs=varC a) (M:=M) Tryz.underlying43 (z:=2) (by kernel_rfl) (by decide) h hM (fun a=>a.1.length) (fun n cs y hl hy hlt=>by
  obtain⟨xs,n,rfl,rfl,_,hlen,hf⟩:=DataW.trod_struct Tryz.underlying91 hy
  match cs,hl with
  | [a,b],_ =>
   match xs,hlen with
   | [y0,y1],_ =>
    have f0:=hf 0 { name:= "Name",type:=9,offset:=0,embedded:=false,tag:= "",pkgPath:= "",byteOffset:=0 } rfl
    have f1:=hf 1 { name:= "Sort",type:=3,offset:=1,embedded:=false,tag:= "",pkgPath:= "",byteOffset:=16 } rfl
    simp only [show Tryz.prog.cellsOf 3=1 by kernel_rfl,show Tryz.prog.cellsOf 9=1 by kernel_rfl] at f0 f1
    simp at f0 f1
    obtain⟨s,hs,hd,-⟩:=DataW.trod_string Tryz.underlying9 f0
    obtain⟨q,hq,-⟩:=DataW.trod_int Tryz.underlying3 f1
    simp at hs hq
    refine⟨(s.data.toList,q),by simp [varC,hs,hq],?_⟩
    rw [hd]
    simp [Rows.uptoBulk,Rows.uptoBulkAll]
    omega)
 refine⟨l,?_,by omega,fun y hy=>?_⟩
 ·rcases h3 with⟨rfl,a,c,rfl⟩ | ⟨g,o,c,rfl,hg,hc⟩
  ·exact Or.inl ⟨rfl,rfl,a,c,rfl⟩
  ·refine Or.inr ⟨g,o,c,rfl,hg,fun j u hj=>?_⟩
   have hlen:(l.flatMap varC).length=l.length*2:=flatMap_len varC 2 (fun _=>rfl) l
   have hj2:j<l.length*2:=by
    have:=(List.getElem?_eq_some_iff.1 hj).1
    rwa [hlen] at this
   have hi:j / 2<l.length:=by omega
   have e:j=j / 2*2+j % 2:=by omega
   have hti:l[j / 2]?=some l[j / 2]:=List.getElem?_eq_getElem hi
   obtain⟨cs,rfl,-,hat⟩:=hc (j / 2) _ hti
   have key:=hat (j % 2) (Nat.mod_lt _ (by decide))
   rw [Nat.add_assoc,←e] at key
   rw [key,←hj]
   conv=>rhs;rw [e]
   exact (flatMap_at varC 2 (fun _=>rfl) l _ _ _ hti (Nat.mod_lt _ (by decide))).symm
 ·have:∀(l:List (List UInt8×Int)),y∈l→y.1.length≤(l.map fun a=>a.1.length).sum:=by
   intro l
   induction l with
   | nil=>intro h;cases h
   | cons a l ih =>
    intro hy
    rcases List.mem_cons.1 hy with rfl | hy
    ·simp
    ·have:=ih hy;simp only [List.map_cons,List.sum_cons];omega
  have:=this l hy
  omega
structure ArgQ (W:World) (q:Qn) (v:Value):Prop where
 val:QnV W AnyB q v
 sz:kCz q.body≤1048576
 ins:inN 1048576 q.body
 fr:q.free.length≤1048576
 nm:∀y∈q.free,y.1.length≤1048576
theorem kSz {v:Value} {d:DataW H} {ps:List MemPlace} (hv:∃cs,v=.agg cs∧cs.size=Tryz.prog.cellsOf 45) (h:DataW.Trod enc Tryz.prog W 0 (fun _=>true) true 45 v d ps) (hM:Rows.uptoBulk d≤1048576):∃q,ArgQ W q v:=by
 obtain⟨cs,rfl,hcs⟩:=hv
 obtain⟨fuel,h⟩:=h
 obtain⟨cs⟩:=cs
 simp only [Value.cells] at h
 obtain⟨xs,n,rfl,hx,hl,hlen,hf⟩:=DataW.trod_struct Tryz.underlying45 h
 rw [show Tryz.prog.cellsOf 45=7 by kernel_rfl] at hl
 match cs,hl with
 | [a,b0,b1,b2,b3,b4,b5],_ =>
  match xs,hlen with
  | [y0,y1],_ =>
   have f0:=hf 0 { name:= "Free",type:=43,offset:=0,embedded:=false,tag:= "",pkgPath:= "",byteOffset:=0 } rfl
   have f1:=hf 1 { name:= "Body",type:=25,offset:=1,embedded:=false,tag:= "",pkgPath:= "",byteOffset:=24 } rfl
   simp only [show Tryz.prog.cellsOf 43=1 by kernel_rfl,show Tryz.prog.cellsOf 25=6 by kernel_rfl] at f0 f1
   simp at f0 f1
   obtain rfl:d=.agg [y0.1,y1.1]:=by simpa using (congrArg Prod.fst hx)
   simp only [Rows.uptoBulk,Rows.uptoBulkAll] at hM
   obtain⟨f,h1,h2,h3⟩:=open_vars f0 (M:=1048576) (by omega)
   obtain⟨nd,k1,k2,k3⟩:=open_node 1048576 _ _ _ rfl f1 (by omega)
   have k2':kCz nd≤1048576:=by omega
   exact⟨⟨f,nd⟩,⟨a,b0,b1,b2,b3,b4,b5,rfl,h1,k1⟩,k2',k3,h2,h3⟩
end
end Go.Proofs.YtkhbpebpljdifaaGreatDoor
namespace Go.Proofs.YtkhbpebpljdifaaGreatDoor
open Go.RowKit Go.PL Go.Maps
theorem has_7a (so nn mm:Int) (nms:List (List UInt8)) (l:List Nd) (hin:inN 10000000 (.mk 7 nms so nn mm l)) (v:Value) (w:World) (P:Nat→Prop) (h:NdV w P (.mk 7 nms so nn mm l) v) (he:Env w) (hf:FEnv w) (hk0:(0:Int)≤7) (_hk1:(7:Int)≤17) (hsb:kBq 7 nms.length l.length=false) (hall:nms.all kKw=true) (hz:so≠0):Calls Tryz.prog 93 #[v] w fun e w'=>e=.returned (.bool false)∧Upto [] w w':=by
 obtain⟨a1,c1,a2,c2,rfl,hs,hg⟩:=h.open
 unfold inN at hin
 obtain⟨a1',c1',ev,hnm⟩:=hs.get
 obtain⟨rfl,rfl⟩:a1=a1'∧c1=c1':=by simpa using ev
 have hu1:Upto [] w (w.alloc (.cells #[.int .i64 7,.slice a1 nms.length c1,.int .i64 so,.int .i64 nn,.int .i64 mm,.slice a2 l.length c2] 34)):=(Upto.refl [] w).alloc _
 have hll:=hin.2.2.1
 have hnl:=hin.1
 have HCF:=Lib.hid (fun u (hu:Upto [] w u)=>kGq nms a1 c1 u (he.ext hu) hnl hin.2.1 (fun i x hi=>by
  obtain⟨g,o,e1,e2⟩:=hnm i _ (by rw [List.getElem?_map,hi];rfl)
  exact⟨g,o,e1,(hu.cell (p:=⟨g,o+i,none⟩) (World.block_lt_of_cell? w _ e2) (by simp)).trans e2⟩))
 have hL0:(0:Int)≤l.length:=by omega
 have hL1:(l.length:Int)≤10000000:=by omega
 have hN0:(0:Int)≤nms.length:=by omega
 have hN1:(nms.length:Int)≤10000000:=by omega
 obtain⟨a,b,c,habc,ha17,hb17,hc17⟩:∃a b c:Nat,hasF 7=(a,b,c)∧a≤17∧b≤17∧c≤17:=by
  unfold hasF
  repeat' split
  all_goals exact⟨_,_,_,rfl,by decide,by decide,by decide⟩
 obtain⟨t0,t1,t2,t3⟩:=(hf.ext hu1).at_ 7 (by omega)
 try simp only [Nat.reduceMul,Nat.reduceAdd] at t0 t1 t2 t3
 rw [show hasF (7:Nat)=(a,b,c) from habc] at t0 t1 t2
 simp only at t0 t1 t2
 have ha0:(0:Int)≤a:=by omega
 have hb0:(0:Int)≤b:=by omega
 have hc0:(0:Int)≤c:=by omega
 have ha1:(a:Int)≤17:=by omega
 have hb1:(b:Int)≤17:=by omega
 have hc1:(c:Int)≤17:=by omega
 obtain⟨hs0,hs1,hs2⟩:¬nms.length<a∧¬b<nms.length∧l.length=c:=by
  unfold kBq at hsb
  rw [habc] at hsb
  simp at hsb
  omega
 have q0:¬(nms.length:Int)<a:=by omega
 have q1:¬(b:Int)<nms.length:=by omega
 have q2:((l.length:Int)==(c:Int))=true:=by rw [hs2,beq_iff_eq]
 have q2b:((l.length:Int) != (c:Int))=false:=by rw [bne,q2];rfl
 have HB1:=Lib.hid (kAq w (.cells #[.int .i64 7,.slice a1 nms.length c1,.int .i64 so,.int .i64 nn,.int .i64 mm,.slice a2 l.length c2] 34))
 have HU1:=Lib.hid hu1
 have hb:=kAq w (.cells #[.int .i64 7,.slice a1 nms.length c1,.int .i64 so,.int .i64 nn,.int .i64 mm,.slice a2 l.length c2] 34)
 obtain⟨y0,y1,y2,y3,y4,y5⟩:=kAx hb
 rw [hall] at HCF
 have HBF:=Lib.hid (kFz w (.cells #[.int .i64 7,.slice a1 nms.length c1,.int .i64 so,.int .i64 nn,.int .i64 mm,.slice a2 l.length c2] 34) (.cells #[.int .i64 a,.int .i64 b,.int .i64 c,.bool false] 159))
 have HU2:Hid (Upto [] w ((w.alloc (.cells #[.int .i64 7,.slice a1 nms.length c1,.int .i64 so,.int .i64 nn,.int .i64 mm,.slice a2 l.length c2] 34)).alloc (.cells #[.int .i64 a,.int .i64 b,.int .i64 c,.bool false] 159))):=Lib.hid (hu1.alloc _)
 have HBO:=Lib.hid (kCx hb (.cells #[.int .i64 a,.int .i64 b,.int .i64 c,.bool false] 159))
 have eso0:(so==(0:Int))=false:=by rw [beq_eq_false_iff_ne];exact hz
 have fso0:(so != (0:Int))=true:=by rw [bne,eso0];rfl
 clear habc hsb hall h hs hg hu1 hnm ev hin hb hs2 he hf
 go_enter Tryz.func93,Tryz.ntmps93
 go_wp2_with fail
 refine (HCF.out _ HU2.out).mono ?_
 rintro e w5 ⟨rfl,hu5⟩
 have HU5:=Lib.hid (HU2.out.trans_ext hu5)
 have hb5:=hu5.at HBO.out (by simp)
 have hf5:=hu5.at HBF.out (by simp)
 have z0:=kAz hb5 0
 have z1:=kAz hb5 1
 have z2:=kAz hb5 2
 have z3:=kAz hb5 3
 have z4:=kAz hb5 4
 have z5:=kAz hb5 5
 have x3:=kAz hf5 3
 simp only [List.getElem?_toArray,List.getElem?_cons_zero,List.getElem?_cons_succ] at z0 z1 z2 z3 z4 z5 x3
 clear hu5 hb5 hf5 y0 y1 y2 y3 y4 y5 t0 t1 t2 t3
 go_wp2_with fail
 go_ret
 exact⟨rfl,HU5.out⟩
theorem has_7b (nn mm:Int) (nms:List (List UInt8)) (l:List Nd) (hin:inN 10000000 (.mk 7 nms 0 nn mm l)) (v:Value) (w:World) (P:Nat→Prop) (h:NdV w P (.mk 7 nms 0 nn mm l) v) (he:Env w) (hf:FEnv w) (hk0:(0:Int)≤7) (_hk1:(7:Int)≤17) (hsb:kBq 7 nms.length l.length=false) (hall:nms.all kKw=true) (hz:mm≠0):Calls Tryz.prog 93 #[v] w fun e w'=>e=.returned (.bool false)∧Upto [] w w':=by
 obtain⟨a1,c1,a2,c2,rfl,hs,hg⟩:=h.open
 unfold inN at hin
 obtain⟨a1',c1',ev,hnm⟩:=hs.get
 obtain⟨rfl,rfl⟩:a1=a1'∧c1=c1':=by simpa using ev
 have hu1:Upto [] w (w.alloc (.cells #[.int .i64 7,.slice a1 nms.length c1,.int .i64 0,.int .i64 nn,.int .i64 mm,.slice a2 l.length c2] 34)):=(Upto.refl [] w).alloc _
 have hll:=hin.2.2.1
 have hnl:=hin.1
 have HCF:=Lib.hid (fun u (hu:Upto [] w u)=>kGq nms a1 c1 u (he.ext hu) hnl hin.2.1 (fun i x hi=>by
  obtain⟨g,o,e1,e2⟩:=hnm i _ (by rw [List.getElem?_map,hi];rfl)
  exact⟨g,o,e1,(hu.cell (p:=⟨g,o+i,none⟩) (World.block_lt_of_cell? w _ e2) (by simp)).trans e2⟩))
 have hL0:(0:Int)≤l.length:=by omega
 have hL1:(l.length:Int)≤10000000:=by omega
 have hN0:(0:Int)≤nms.length:=by omega
 have hN1:(nms.length:Int)≤10000000:=by omega
 obtain⟨a,b,c,habc,ha17,hb17,hc17⟩:∃a b c:Nat,hasF 7=(a,b,c)∧a≤17∧b≤17∧c≤17:=by
  unfold hasF
  repeat' split
  all_goals exact⟨_,_,_,rfl,by decide,by decide,by decide⟩
 obtain⟨t0,t1,t2,t3⟩:=(hf.ext hu1).at_ 7 (by omega)
 try simp only [Nat.reduceMul,Nat.reduceAdd] at t0 t1 t2 t3
 rw [show hasF (7:Nat)=(a,b,c) from habc] at t0 t1 t2
 simp only at t0 t1 t2
 have ha0:(0:Int)≤a:=by omega
 have hb0:(0:Int)≤b:=by omega
 have hc0:(0:Int)≤c:=by omega
 have ha1:(a:Int)≤17:=by omega
 have hb1:(b:Int)≤17:=by omega
 have hc1:(c:Int)≤17:=by omega
 obtain⟨hs0,hs1,hs2⟩:¬nms.length<a∧¬b<nms.length∧l.length=c:=by
  unfold kBq at hsb
  rw [habc] at hsb
  simp at hsb
  omega
 have q0:¬(nms.length:Int)<a:=by omega
 have q1:¬(b:Int)<nms.length:=by omega
 have q2:((l.length:Int)==(c:Int))=true:=by rw [hs2,beq_iff_eq]
 have q2b:((l.length:Int) != (c:Int))=false:=by rw [bne,q2];rfl
 have HB1:=Lib.hid (kAq w (.cells #[.int .i64 7,.slice a1 nms.length c1,.int .i64 0,.int .i64 nn,.int .i64 mm,.slice a2 l.length c2] 34))
 have HU1:=Lib.hid hu1
 have hb:=kAq w (.cells #[.int .i64 7,.slice a1 nms.length c1,.int .i64 0,.int .i64 nn,.int .i64 mm,.slice a2 l.length c2] 34)
 obtain⟨y0,y1,y2,y3,y4,y5⟩:=kAx hb
 rw [hall] at HCF
 have HBF:=Lib.hid (kFz w (.cells #[.int .i64 7,.slice a1 nms.length c1,.int .i64 0,.int .i64 nn,.int .i64 mm,.slice a2 l.length c2] 34) (.cells #[.int .i64 a,.int .i64 b,.int .i64 c,.bool false] 159))
 have HU2:Hid (Upto [] w ((w.alloc (.cells #[.int .i64 7,.slice a1 nms.length c1,.int .i64 0,.int .i64 nn,.int .i64 mm,.slice a2 l.length c2] 34)).alloc (.cells #[.int .i64 a,.int .i64 b,.int .i64 c,.bool false] 159))):=Lib.hid (hu1.alloc _)
 have HBO:=Lib.hid (kCx hb (.cells #[.int .i64 a,.int .i64 b,.int .i64 c,.bool false] 159))
 have emm0:(mm==(0:Int))=false:=by rw [beq_eq_false_iff_ne];exact hz
 have fmm0:(mm != (0:Int))=true:=by rw [bne,emm0];rfl
 clear habc hsb hall h hs hg hu1 hnm ev hin hb hs2 he hf
 go_enter Tryz.func93,Tryz.ntmps93
 go_wp2_with fail
 refine (HCF.out _ HU2.out).mono ?_
 rintro e w5 ⟨rfl,hu5⟩
 have HU5:=Lib.hid (HU2.out.trans_ext hu5)
 have hb5:=hu5.at HBO.out (by simp)
 have hf5:=hu5.at HBF.out (by simp)
 have z0:=kAz hb5 0
 have z1:=kAz hb5 1
 have z2:=kAz hb5 2
 have z3:=kAz hb5 3
 have z4:=kAz hb5 4
 have z5:=kAz hb5 5
 have x3:=kAz hf5 3
 simp only [List.getElem?_toArray,List.getElem?_cons_zero,List.getElem?_cons_succ] at z0 z1 z2 z3 z4 z5 x3
 clear hu5 hb5 hf5 y0 y1 y2 y3 y4 y5 t0 t1 t2 t3
 go_wp2_with fail
 go_ret
 exact⟨rfl,HU5.out⟩
theorem has_7g (nn:Int) (nms:List (List UInt8)) (l:List Nd) (hin:inN 10000000 (.mk 7 nms 0 nn 0 l)) (v:Value) (w:World) (P:Nat→Prop) (h:NdV w P (.mk 7 nms 0 nn 0 l) v) (he:Env w) (hf:FEnv w) (hk0:(0:Int)≤7) (_hk1:(7:Int)≤17) (hsb:kBq 7 nms.length l.length=false) (hall:nms.all kKw=true):Calls Tryz.prog 93 #[v] w fun e w'=>e=.returned (.bool true)∧Upto [] w w':=by
 obtain⟨a1,c1,a2,c2,rfl,hs,hg⟩:=h.open
 unfold inN at hin
 obtain⟨a1',c1',ev,hnm⟩:=hs.get
 obtain⟨rfl,rfl⟩:a1=a1'∧c1=c1':=by simpa using ev
 have hu1:Upto [] w (w.alloc (.cells #[.int .i64 7,.slice a1 nms.length c1,.int .i64 0,.int .i64 nn,.int .i64 0,.slice a2 l.length c2] 34)):=(Upto.refl [] w).alloc _
 have hll:=hin.2.2.1
 have hnl:=hin.1
 have HCF:=Lib.hid (fun u (hu:Upto [] w u)=>kGq nms a1 c1 u (he.ext hu) hnl hin.2.1 (fun i x hi=>by
  obtain⟨g,o,e1,e2⟩:=hnm i _ (by rw [List.getElem?_map,hi];rfl)
  exact⟨g,o,e1,(hu.cell (p:=⟨g,o+i,none⟩) (World.block_lt_of_cell? w _ e2) (by simp)).trans e2⟩))
 have hL0:(0:Int)≤l.length:=by omega
 have hL1:(l.length:Int)≤10000000:=by omega
 have hN0:(0:Int)≤nms.length:=by omega
 have hN1:(nms.length:Int)≤10000000:=by omega
 obtain⟨a,b,c,habc,ha17,hb17,hc17⟩:∃a b c:Nat,hasF 7=(a,b,c)∧a≤17∧b≤17∧c≤17:=by
  unfold hasF
  repeat' split
  all_goals exact⟨_,_,_,rfl,by decide,by decide,by decide⟩
 obtain⟨t0,t1,t2,t3⟩:=(hf.ext hu1).at_ 7 (by omega)
 try simp only [Nat.reduceMul,Nat.reduceAdd] at t0 t1 t2 t3
 rw [show hasF (7:Nat)=(a,b,c) from habc] at t0 t1 t2
 simp only at t0 t1 t2
 have ha0:(0:Int)≤a:=by omega
 have hb0:(0:Int)≤b:=by omega
 have hc0:(0:Int)≤c:=by omega
 have ha1:(a:Int)≤17:=by omega
 have hb1:(b:Int)≤17:=by omega
 have hc1:(c:Int)≤17:=by omega
 obtain⟨hs0,hs1,hs2⟩:¬nms.length<a∧¬b<nms.length∧l.length=c:=by
  unfold kBq at hsb
  rw [habc] at hsb
  simp at hsb
  omega
 have q0:¬(nms.length:Int)<a:=by omega
 have q1:¬(b:Int)<nms.length:=by omega
 have q2:((l.length:Int)==(c:Int))=true:=by rw [hs2,beq_iff_eq]
 have q2b:((l.length:Int) != (c:Int))=false:=by rw [bne,q2];rfl
 have HB1:=Lib.hid (kAq w (.cells #[.int .i64 7,.slice a1 nms.length c1,.int .i64 0,.int .i64 nn,.int .i64 0,.slice a2 l.length c2] 34))
 have HU1:=Lib.hid hu1
 have hb:=kAq w (.cells #[.int .i64 7,.slice a1 nms.length c1,.int .i64 0,.int .i64 nn,.int .i64 0,.slice a2 l.length c2] 34)
 obtain⟨y0,y1,y2,y3,y4,y5⟩:=kAx hb
 rw [hall] at HCF
 have HBF:=Lib.hid (kFz w (.cells #[.int .i64 7,.slice a1 nms.length c1,.int .i64 0,.int .i64 nn,.int .i64 0,.slice a2 l.length c2] 34) (.cells #[.int .i64 a,.int .i64 b,.int .i64 c,.bool false] 159))
 have HU2:Hid (Upto [] w ((w.alloc (.cells #[.int .i64 7,.slice a1 nms.length c1,.int .i64 0,.int .i64 nn,.int .i64 0,.slice a2 l.length c2] 34)).alloc (.cells #[.int .i64 a,.int .i64 b,.int .i64 c,.bool false] 159))):=Lib.hid (hu1.alloc _)
 have HBO:=Lib.hid (kCx hb (.cells #[.int .i64 a,.int .i64 b,.int .i64 c,.bool false] 159))
 clear habc hsb hall h hs hg hu1 hnm ev hin hb hs2 he hf
 go_enter Tryz.func93,Tryz.ntmps93
 go_wp2_with fail
 refine (HCF.out _ HU2.out).mono ?_
 rintro e w5 ⟨rfl,hu5⟩
 have HU5:=Lib.hid (HU2.out.trans_ext hu5)
 have hb5:=hu5.at HBO.out (by simp)
 have hf5:=hu5.at HBF.out (by simp)
 have z0:=kAz hb5 0
 have z1:=kAz hb5 1
 have z2:=kAz hb5 2
 have z3:=kAz hb5 3
 have z4:=kAz hb5 4
 have z5:=kAz hb5 5
 have x3:=kAz hf5 3
 simp only [List.getElem?_toArray,List.getElem?_cons_zero,List.getElem?_cons_succ] at z0 z1 z2 z3 z4 z5 x3
 clear hu5 hb5 hf5 y0 y1 y2 y3 y4 y5 t0 t1 t2 t3
 go_wp2_with fail
 go_ret
 exact⟨rfl,HU5.out⟩
theorem has_8a (so nn mm:Int) (nms:List (List UInt8)) (l:List Nd) (hin:inN 10000000 (.mk 8 nms so nn mm l)) (v:Value) (w:World) (P:Nat→Prop) (h:NdV w P (.mk 8 nms so nn mm l) v) (he:Env w) (hf:FEnv w) (hk0:(0:Int)≤8) (_hk1:(8:Int)≤17) (hsb:kBq 8 nms.length l.length=false) (hall:nms.all kKw=true) (hz:so≠0):Calls Tryz.prog 93 #[v] w fun e w'=>e=.returned (.bool false)∧Upto [] w w':=by
 obtain⟨a1,c1,a2,c2,rfl,hs,hg⟩:=h.open
 unfold inN at hin
 obtain⟨a1',c1',ev,hnm⟩:=hs.get
 obtain⟨rfl,rfl⟩:a1=a1'∧c1=c1':=by simpa using ev
 have hu1:Upto [] w (w.alloc (.cells #[.int .i64 8,.slice a1 nms.length c1,.int .i64 so,.int .i64 nn,.int .i64 mm,.slice a2 l.length c2] 34)):=(Upto.refl [] w).alloc _
 have hll:=hin.2.2.1
 have hnl:=hin.1
 have HCF:=Lib.hid (fun u (hu:Upto [] w u)=>kGq nms a1 c1 u (he.ext hu) hnl hin.2.1 (fun i x hi=>by
  obtain⟨g,o,e1,e2⟩:=hnm i _ (by rw [List.getElem?_map,hi];rfl)
  exact⟨g,o,e1,(hu.cell (p:=⟨g,o+i,none⟩) (World.block_lt_of_cell? w _ e2) (by simp)).trans e2⟩))
 have hL0:(0:Int)≤l.length:=by omega
 have hL1:(l.length:Int)≤10000000:=by omega
 have hN0:(0:Int)≤nms.length:=by omega
 have hN1:(nms.length:Int)≤10000000:=by omega
 obtain⟨a,b,c,habc,ha17,hb17,hc17⟩:∃a b c:Nat,hasF 8=(a,b,c)∧a≤17∧b≤17∧c≤17:=by
  unfold hasF
  repeat' split
  all_goals exact⟨_,_,_,rfl,by decide,by decide,by decide⟩
 obtain⟨t0,t1,t2,t3⟩:=(hf.ext hu1).at_ 8 (by omega)
 try simp only [Nat.reduceMul,Nat.reduceAdd] at t0 t1 t2 t3
 rw [show hasF (8:Nat)=(a,b,c) from habc] at t0 t1 t2
 simp only at t0 t1 t2
 have ha0:(0:Int)≤a:=by omega
 have hb0:(0:Int)≤b:=by omega
 have hc0:(0:Int)≤c:=by omega
 have ha1:(a:Int)≤17:=by omega
 have hb1:(b:Int)≤17:=by omega
 have hc1:(c:Int)≤17:=by omega
 obtain⟨hs0,hs1,hs2⟩:¬nms.length<a∧¬b<nms.length∧l.length=c:=by
  unfold kBq at hsb
  rw [habc] at hsb
  simp at hsb
  omega
 have q0:¬(nms.length:Int)<a:=by omega
 have q1:¬(b:Int)<nms.length:=by omega
 have q2:((l.length:Int)==(c:Int))=true:=by rw [hs2,beq_iff_eq]
 have q2b:((l.length:Int) != (c:Int))=false:=by rw [bne,q2];rfl
 have HB1:=Lib.hid (kAq w (.cells #[.int .i64 8,.slice a1 nms.length c1,.int .i64 so,.int .i64 nn,.int .i64 mm,.slice a2 l.length c2] 34))
 have HU1:=Lib.hid hu1
 have hb:=kAq w (.cells #[.int .i64 8,.slice a1 nms.length c1,.int .i64 so,.int .i64 nn,.int .i64 mm,.slice a2 l.length c2] 34)
 obtain⟨y0,y1,y2,y3,y4,y5⟩:=kAx hb
 rw [hall] at HCF
 have HBF:=Lib.hid (kFz w (.cells #[.int .i64 8,.slice a1 nms.length c1,.int .i64 so,.int .i64 nn,.int .i64 mm,.slice a2 l.length c2] 34) (.cells #[.int .i64 a,.int .i64 b,.int .i64 c,.bool false] 159))
 have HU2:Hid (Upto [] w ((w.alloc (.cells #[.int .i64 8,.slice a1 nms.length c1,.int .i64 so,.int .i64 nn,.int .i64 mm,.slice a2 l.length c2] 34)).alloc (.cells #[.int .i64 a,.int .i64 b,.int .i64 c,.bool false] 159))):=Lib.hid (hu1.alloc _)
 have HBO:=Lib.hid (kCx hb (.cells #[.int .i64 a,.int .i64 b,.int .i64 c,.bool false] 159))
 have eso0:(so==(0:Int))=false:=by rw [beq_eq_false_iff_ne];exact hz
 have fso0:(so != (0:Int))=true:=by rw [bne,eso0];rfl
 clear habc hsb hall h hs hg hu1 hnm ev hin hb hs2 he hf
 go_enter Tryz.func93,Tryz.ntmps93
 go_wp2_with fail
 refine (HCF.out _ HU2.out).mono ?_
 rintro e w5 ⟨rfl,hu5⟩
 have HU5:=Lib.hid (HU2.out.trans_ext hu5)
 have hb5:=hu5.at HBO.out (by simp)
 have hf5:=hu5.at HBF.out (by simp)
 have z0:=kAz hb5 0
 have z1:=kAz hb5 1
 have z2:=kAz hb5 2
 have z3:=kAz hb5 3
 have z4:=kAz hb5 4
 have z5:=kAz hb5 5
 have x3:=kAz hf5 3
 simp only [List.getElem?_toArray,List.getElem?_cons_zero,List.getElem?_cons_succ] at z0 z1 z2 z3 z4 z5 x3
 clear hu5 hb5 hf5 y0 y1 y2 y3 y4 y5 t0 t1 t2 t3
 go_wp2_with fail
 go_ret
 exact⟨rfl,HU5.out⟩
theorem has_8g (nn mm:Int) (nms:List (List UInt8)) (l:List Nd) (hin:inN 10000000 (.mk 8 nms 0 nn mm l)) (v:Value) (w:World) (P:Nat→Prop) (h:NdV w P (.mk 8 nms 0 nn mm l) v) (he:Env w) (hf:FEnv w) (hk0:(0:Int)≤8) (_hk1:(8:Int)≤17) (hsb:kBq 8 nms.length l.length=false) (hall:nms.all kKw=true):Calls Tryz.prog 93 #[v] w fun e w'=>e=.returned (.bool true)∧Upto [] w w':=by
 obtain⟨a1,c1,a2,c2,rfl,hs,hg⟩:=h.open
 unfold inN at hin
 obtain⟨a1',c1',ev,hnm⟩:=hs.get
 obtain⟨rfl,rfl⟩:a1=a1'∧c1=c1':=by simpa using ev
 have hu1:Upto [] w (w.alloc (.cells #[.int .i64 8,.slice a1 nms.length c1,.int .i64 0,.int .i64 nn,.int .i64 mm,.slice a2 l.length c2] 34)):=(Upto.refl [] w).alloc _
 have hll:=hin.2.2.1
 have hnl:=hin.1
 have HCF:=Lib.hid (fun u (hu:Upto [] w u)=>kGq nms a1 c1 u (he.ext hu) hnl hin.2.1 (fun i x hi=>by
  obtain⟨g,o,e1,e2⟩:=hnm i _ (by rw [List.getElem?_map,hi];rfl)
  exact⟨g,o,e1,(hu.cell (p:=⟨g,o+i,none⟩) (World.block_lt_of_cell? w _ e2) (by simp)).trans e2⟩))
 have hL0:(0:Int)≤l.length:=by omega
 have hL1:(l.length:Int)≤10000000:=by omega
 have hN0:(0:Int)≤nms.length:=by omega
 have hN1:(nms.length:Int)≤10000000:=by omega
 obtain⟨a,b,c,habc,ha17,hb17,hc17⟩:∃a b c:Nat,hasF 8=(a,b,c)∧a≤17∧b≤17∧c≤17:=by
  unfold hasF
  repeat' split
  all_goals exact⟨_,_,_,rfl,by decide,by decide,by decide⟩
 obtain⟨t0,t1,t2,t3⟩:=(hf.ext hu1).at_ 8 (by omega)
 try simp only [Nat.reduceMul,Nat.reduceAdd] at t0 t1 t2 t3
 rw [show hasF (8:Nat)=(a,b,c) from habc] at t0 t1 t2
 simp only at t0 t1 t2
 have ha0:(0:Int)≤a:=by omega
 have hb0:(0:Int)≤b:=by omega
 have hc0:(0:Int)≤c:=by omega
 have ha1:(a:Int)≤17:=by omega
 have hb1:(b:Int)≤17:=by omega
 have hc1:(c:Int)≤17:=by omega
 obtain⟨hs0,hs1,hs2⟩:¬nms.length<a∧¬b<nms.length∧l.length=c:=by
  unfold kBq at hsb
  rw [habc] at hsb
  simp at hsb
  omega
 have q0:¬(nms.length:Int)<a:=by omega
 have q1:¬(b:Int)<nms.length:=by omega
 have q2:((l.length:Int)==(c:Int))=true:=by rw [hs2,beq_iff_eq]
 have q2b:((l.length:Int) != (c:Int))=false:=by rw [bne,q2];rfl
 have HB1:=Lib.hid (kAq w (.cells #[.int .i64 8,.slice a1 nms.length c1,.int .i64 0,.int .i64 nn,.int .i64 mm,.slice a2 l.length c2] 34))
 have HU1:=Lib.hid hu1
 have hb:=kAq w (.cells #[.int .i64 8,.slice a1 nms.length c1,.int .i64 0,.int .i64 nn,.int .i64 mm,.slice a2 l.length c2] 34)
 obtain⟨y0,y1,y2,y3,y4,y5⟩:=kAx hb
 rw [hall] at HCF
 have HBF:=Lib.hid (kFz w (.cells #[.int .i64 8,.slice a1 nms.length c1,.int .i64 0,.int .i64 nn,.int .i64 mm,.slice a2 l.length c2] 34) (.cells #[.int .i64 a,.int .i64 b,.int .i64 c,.bool false] 159))
 have HU2:Hid (Upto [] w ((w.alloc (.cells #[.int .i64 8,.slice a1 nms.length c1,.int .i64 0,.int .i64 nn,.int .i64 mm,.slice a2 l.length c2] 34)).alloc (.cells #[.int .i64 a,.int .i64 b,.int .i64 c,.bool false] 159))):=Lib.hid (hu1.alloc _)
 have HBO:=Lib.hid (kCx hb (.cells #[.int .i64 a,.int .i64 b,.int .i64 c,.bool false] 159))
 clear habc hsb hall h hs hg hu1 hnm ev hin hb hs2 he hf
 go_enter Tryz.func93,Tryz.ntmps93
 go_wp2_with fail
 refine (HCF.out _ HU2.out).mono ?_
 rintro e w5 ⟨rfl,hu5⟩
 have HU5:=Lib.hid (HU2.out.trans_ext hu5)
 have hb5:=hu5.at HBO.out (by simp)
 have hf5:=hu5.at HBF.out (by simp)
 have z0:=kAz hb5 0
 have z1:=kAz hb5 1
 have z2:=kAz hb5 2
 have z3:=kAz hb5 3
 have z4:=kAz hb5 4
 have z5:=kAz hb5 5
 have x3:=kAz hf5 3
 simp only [List.getElem?_toArray,List.getElem?_cons_zero,List.getElem?_cons_succ] at z0 z1 z2 z3 z4 z5 x3
 clear hu5 hb5 hf5 y0 y1 y2 y3 y4 y5 t0 t1 t2 t3
 go_wp2_with fail
 go_ret
 exact⟨rfl,HU5.out⟩
theorem has_oa (k:Nat) (so nn mm:Int) (nms:List (List UInt8)) (l:List Nd) (hin:inN 10000000 (.mk (k:Int) nms so nn mm l)) (v:Value) (w:World) (P:Nat→Prop) (h:NdV w P (.mk (k:Int) nms so nn mm l) v) (he:Env w) (hf:FEnv w) (hk0:(0:Int)≤(k:Int)) (hk1:((k:Int):Int)≤17) (hsb:kBq (k:Int) nms.length l.length=false) (hall:nms.all kKw=true) (o7:(k:Int)≠7) (o8:(k:Int)≠8) (o16:k<16) (hz:so≠0):Calls Tryz.prog 93 #[v] w fun e w'=>e=.returned (.bool false)∧Upto [] w w':=by
 obtain⟨a1,c1,a2,c2,rfl,hs,hg⟩:=h.open
 unfold inN at hin
 obtain⟨a1',c1',ev,hnm⟩:=hs.get
 obtain⟨rfl,rfl⟩:a1=a1'∧c1=c1':=by simpa using ev
 have hu1:Upto [] w (w.alloc (.cells #[.int .i64 (k:Int),.slice a1 nms.length c1,.int .i64 so,.int .i64 nn,.int .i64 mm,.slice a2 l.length c2] 34)):=(Upto.refl [] w).alloc _
 have hll:=hin.2.2.1
 have hnl:=hin.1
 have HCF:=Lib.hid (fun u (hu:Upto [] w u)=>kGq nms a1 c1 u (he.ext hu) hnl hin.2.1 (fun i x hi=>by
  obtain⟨g,o,e1,e2⟩:=hnm i _ (by rw [List.getElem?_map,hi];rfl)
  exact⟨g,o,e1,(hu.cell (p:=⟨g,o+i,none⟩) (World.block_lt_of_cell? w _ e2) (by simp)).trans e2⟩))
 have hL0:(0:Int)≤l.length:=by omega
 have hL1:(l.length:Int)≤10000000:=by omega
 have hN0:(0:Int)≤nms.length:=by omega
 have hN1:(nms.length:Int)≤10000000:=by omega
 obtain⟨a,b,c,habc,ha17,hb17,hc17⟩:∃a b c:Nat,hasF (k:Int)=(a,b,c)∧a≤17∧b≤17∧c≤17:=by
  unfold hasF
  repeat' split
  all_goals exact⟨_,_,_,rfl,by decide,by decide,by decide⟩
 obtain⟨t0,t1,t2,t3⟩:=(hf.ext hu1).at_ k (by omega)
 try simp only [Nat.reduceMul,Nat.reduceAdd] at t0 t1 t2 t3
 rw [show hasF (k:Nat)=(a,b,c) from habc] at t0 t1 t2
 simp only at t0 t1 t2
 have ha0:(0:Int)≤a:=by omega
 have hb0:(0:Int)≤b:=by omega
 have hc0:(0:Int)≤c:=by omega
 have ha1:(a:Int)≤17:=by omega
 have hb1:(b:Int)≤17:=by omega
 have hc1:(c:Int)≤17:=by omega
 obtain⟨hs0,hs1,hs2⟩:¬nms.length<a∧¬b<nms.length∧l.length=c:=by
  unfold kBq at hsb
  rw [habc] at hsb
  simp at hsb
  omega
 have q0:¬(nms.length:Int)<a:=by omega
 have q1:¬(b:Int)<nms.length:=by omega
 have q2:((l.length:Int)==(c:Int))=true:=by rw [hs2,beq_iff_eq]
 have q2b:((l.length:Int) != (c:Int))=false:=by rw [bne,q2];rfl
 have HB1:=Lib.hid (kAq w (.cells #[.int .i64 (k:Int),.slice a1 nms.length c1,.int .i64 so,.int .i64 nn,.int .i64 mm,.slice a2 l.length c2] 34))
 have HU1:=Lib.hid hu1
 have hb:=kAq w (.cells #[.int .i64 (k:Int),.slice a1 nms.length c1,.int .i64 so,.int .i64 nn,.int .i64 mm,.slice a2 l.length c2] 34)
 obtain⟨y0,y1,y2,y3,y4,y5⟩:=kAx hb
 rw [show decide (16≤k)=false from decide_eq_false (by omega)] at t3
 rw [hall] at HCF
 have HBF:=Lib.hid (kFz w (.cells #[.int .i64 (k:Int),.slice a1 nms.length c1,.int .i64 so,.int .i64 nn,.int .i64 mm,.slice a2 l.length c2] 34) (.cells #[.int .i64 a,.int .i64 b,.int .i64 c,.bool false] 159))
 have HU2:Hid (Upto [] w ((w.alloc (.cells #[.int .i64 (k:Int),.slice a1 nms.length c1,.int .i64 so,.int .i64 nn,.int .i64 mm,.slice a2 l.length c2] 34)).alloc (.cells #[.int .i64 a,.int .i64 b,.int .i64 c,.bool false] 159))):=Lib.hid (hu1.alloc _)
 have HBO:=Lib.hid (kCx hb (.cells #[.int .i64 a,.int .i64 b,.int .i64 c,.bool false] 159))
 have e7:((k:Int)==(7:Int))=false:=by rw [beq_eq_false_iff_ne];exact o7
 have f7:((k:Int) != (7:Int))=true:=by rw [bne,e7];rfl
 have e8:((k:Int)==(8:Int))=false:=by rw [beq_eq_false_iff_ne];exact o8
 have f8:((k:Int) != (8:Int))=true:=by rw [bne,e8];rfl
 have eso0:(so==(0:Int))=false:=by rw [beq_eq_false_iff_ne];exact hz
 have fso0:(so != (0:Int))=true:=by rw [bne,eso0];rfl
 clear habc hsb hall h hs hg hu1 hnm ev hin hb hs2 he hf
 go_enter Tryz.func93,Tryz.ntmps93
 go_wp2_with fail
 refine (HCF.out _ HU2.out).mono ?_
 rintro e w5 ⟨rfl,hu5⟩
 have HU5:=Lib.hid (HU2.out.trans_ext hu5)
 have hb5:=hu5.at HBO.out (by simp)
 have hf5:=hu5.at HBF.out (by simp)
 have z0:=kAz hb5 0
 have z1:=kAz hb5 1
 have z2:=kAz hb5 2
 have z3:=kAz hb5 3
 have z4:=kAz hb5 4
 have z5:=kAz hb5 5
 have x3:=kAz hf5 3
 simp only [List.getElem?_toArray,List.getElem?_cons_zero,List.getElem?_cons_succ] at z0 z1 z2 z3 z4 z5 x3
 clear hu5 hb5 hf5 y0 y1 y2 y3 y4 y5 t0 t1 t2 t3
 go_wp2_with fail
 go_ret
 exact⟨rfl,HU5.out⟩
theorem has_ob (k:Nat) (nn mm:Int) (nms:List (List UInt8)) (l:List Nd) (hin:inN 10000000 (.mk (k:Int) nms 0 nn mm l)) (v:Value) (w:World) (P:Nat→Prop) (h:NdV w P (.mk (k:Int) nms 0 nn mm l) v) (he:Env w) (hf:FEnv w) (hk0:(0:Int)≤(k:Int)) (hk1:((k:Int):Int)≤17) (hsb:kBq (k:Int) nms.length l.length=false) (hall:nms.all kKw=true) (o7:(k:Int)≠7) (o8:(k:Int)≠8) (o16:k<16) (hz:nn≠0):Calls Tryz.prog 93 #[v] w fun e w'=>e=.returned (.bool false)∧Upto [] w w':=by
 obtain⟨a1,c1,a2,c2,rfl,hs,hg⟩:=h.open
 unfold inN at hin
 obtain⟨a1',c1',ev,hnm⟩:=hs.get
 obtain⟨rfl,rfl⟩:a1=a1'∧c1=c1':=by simpa using ev
 have hu1:Upto [] w (w.alloc (.cells #[.int .i64 (k:Int),.slice a1 nms.length c1,.int .i64 0,.int .i64 nn,.int .i64 mm,.slice a2 l.length c2] 34)):=(Upto.refl [] w).alloc _
 have hll:=hin.2.2.1
 have hnl:=hin.1
 have HCF:=Lib.hid (fun u (hu:Upto [] w u)=>kGq nms a1 c1 u (he.ext hu) hnl hin.2.1 (fun i x hi=>by
  obtain⟨g,o,e1,e2⟩:=hnm i _ (by rw [List.getElem?_map,hi];rfl)
  exact⟨g,o,e1,(hu.cell (p:=⟨g,o+i,none⟩) (World.block_lt_of_cell? w _ e2) (by simp)).trans e2⟩))
 have hL0:(0:Int)≤l.length:=by omega
 have hL1:(l.length:Int)≤10000000:=by omega
 have hN0:(0:Int)≤nms.length:=by omega
 have hN1:(nms.length:Int)≤10000000:=by omega
 obtain⟨a,b,c,habc,ha17,hb17,hc17⟩:∃a b c:Nat,hasF (k:Int)=(a,b,c)∧a≤17∧b≤17∧c≤17:=by
  unfold hasF
  repeat' split
  all_goals exact⟨_,_,_,rfl,by decide,by decide,by decide⟩
 obtain⟨t0,t1,t2,t3⟩:=(hf.ext hu1).at_ k (by omega)
 try simp only [Nat.reduceMul,Nat.reduceAdd] at t0 t1 t2 t3
 rw [show hasF (k:Nat)=(a,b,c) from habc] at t0 t1 t2
 simp only at t0 t1 t2
 have ha0:(0:Int)≤a:=by omega
 have hb0:(0:Int)≤b:=by omega
 have hc0:(0:Int)≤c:=by omega
 have ha1:(a:Int)≤17:=by omega
 have hb1:(b:Int)≤17:=by omega
 have hc1:(c:Int)≤17:=by omega
 obtain⟨hs0,hs1,hs2⟩:¬nms.length<a∧¬b<nms.length∧l.length=c:=by
  unfold kBq at hsb
  rw [habc] at hsb
  simp at hsb
  omega
 have q0:¬(nms.length:Int)<a:=by omega
 have q1:¬(b:Int)<nms.length:=by omega
 have q2:((l.length:Int)==(c:Int))=true:=by rw [hs2,beq_iff_eq]
 have q2b:((l.length:Int) != (c:Int))=false:=by rw [bne,q2];rfl
 have HB1:=Lib.hid (kAq w (.cells #[.int .i64 (k:Int),.slice a1 nms.length c1,.int .i64 0,.int .i64 nn,.int .i64 mm,.slice a2 l.length c2] 34))
 have HU1:=Lib.hid hu1
 have hb:=kAq w (.cells #[.int .i64 (k:Int),.slice a1 nms.length c1,.int .i64 0,.int .i64 nn,.int .i64 mm,.slice a2 l.length c2] 34)
 obtain⟨y0,y1,y2,y3,y4,y5⟩:=kAx hb
 rw [show decide (16≤k)=false from decide_eq_false (by omega)] at t3
 rw [hall] at HCF
 have HBF:=Lib.hid (kFz w (.cells #[.int .i64 (k:Int),.slice a1 nms.length c1,.int .i64 0,.int .i64 nn,.int .i64 mm,.slice a2 l.length c2] 34) (.cells #[.int .i64 a,.int .i64 b,.int .i64 c,.bool false] 159))
 have HU2:Hid (Upto [] w ((w.alloc (.cells #[.int .i64 (k:Int),.slice a1 nms.length c1,.int .i64 0,.int .i64 nn,.int .i64 mm,.slice a2 l.length c2] 34)).alloc (.cells #[.int .i64 a,.int .i64 b,.int .i64 c,.bool false] 159))):=Lib.hid (hu1.alloc _)
 have HBO:=Lib.hid (kCx hb (.cells #[.int .i64 a,.int .i64 b,.int .i64 c,.bool false] 159))
 have e7:((k:Int)==(7:Int))=false:=by rw [beq_eq_false_iff_ne];exact o7
 have f7:((k:Int) != (7:Int))=true:=by rw [bne,e7];rfl
 have e8:((k:Int)==(8:Int))=false:=by rw [beq_eq_false_iff_ne];exact o8
 have f8:((k:Int) != (8:Int))=true:=by rw [bne,e8];rfl
 have enn0:(nn==(0:Int))=false:=by rw [beq_eq_false_iff_ne];exact hz
 have fnn0:(nn != (0:Int))=true:=by rw [bne,enn0];rfl
 clear habc hsb hall h hs hg hu1 hnm ev hin hb hs2 he hf
 go_enter Tryz.func93,Tryz.ntmps93
 go_wp2_with fail
 refine (HCF.out _ HU2.out).mono ?_
 rintro e w5 ⟨rfl,hu5⟩
 have HU5:=Lib.hid (HU2.out.trans_ext hu5)
 have hb5:=hu5.at HBO.out (by simp)
 have hf5:=hu5.at HBF.out (by simp)
 have z0:=kAz hb5 0
 have z1:=kAz hb5 1
 have z2:=kAz hb5 2
 have z3:=kAz hb5 3
 have z4:=kAz hb5 4
 have z5:=kAz hb5 5
 have x3:=kAz hf5 3
 simp only [List.getElem?_toArray,List.getElem?_cons_zero,List.getElem?_cons_succ] at z0 z1 z2 z3 z4 z5 x3
 clear hu5 hb5 hf5 y0 y1 y2 y3 y4 y5 t0 t1 t2 t3
 go_wp2_with fail
 go_ret
 exact⟨rfl,HU5.out⟩
theorem has_oc (k:Nat) (mm:Int) (nms:List (List UInt8)) (l:List Nd) (hin:inN 10000000 (.mk (k:Int) nms 0 0 mm l)) (v:Value) (w:World) (P:Nat→Prop) (h:NdV w P (.mk (k:Int) nms 0 0 mm l) v) (he:Env w) (hf:FEnv w) (hk0:(0:Int)≤(k:Int)) (hk1:((k:Int):Int)≤17) (hsb:kBq (k:Int) nms.length l.length=false) (hall:nms.all kKw=true) (o7:(k:Int)≠7) (o8:(k:Int)≠8) (o16:k<16) (hz:mm≠0):Calls Tryz.prog 93 #[v] w fun e w'=>e=.returned (.bool false)∧Upto [] w w':=by
 obtain⟨a1,c1,a2,c2,rfl,hs,hg⟩:=h.open
 unfold inN at hin
 obtain⟨a1',c1',ev,hnm⟩:=hs.get
 obtain⟨rfl,rfl⟩:a1=a1'∧c1=c1':=by simpa using ev
 have hu1:Upto [] w (w.alloc (.cells #[.int .i64 (k:Int),.slice a1 nms.length c1,.int .i64 0,.int .i64 0,.int .i64 mm,.slice a2 l.length c2] 34)):=(Upto.refl [] w).alloc _
 have hll:=hin.2.2.1
 have hnl:=hin.1
 have HCF:=Lib.hid (fun u (hu:Upto [] w u)=>kGq nms a1 c1 u (he.ext hu) hnl hin.2.1 (fun i x hi=>by
  obtain⟨g,o,e1,e2⟩:=hnm i _ (by rw [List.getElem?_map,hi];rfl)
  exact⟨g,o,e1,(hu.cell (p:=⟨g,o+i,none⟩) (World.block_lt_of_cell? w _ e2) (by simp)).trans e2⟩))
 have hL0:(0:Int)≤l.length:=by omega
 have hL1:(l.length:Int)≤10000000:=by omega
 have hN0:(0:Int)≤nms.length:=by omega
 have hN1:(nms.length:Int)≤10000000:=by omega
 obtain⟨a,b,c,habc,ha17,hb17,hc17⟩:∃a b c:Nat,hasF (k:Int)=(a,b,c)∧a≤17∧b≤17∧c≤17:=by
  unfold hasF
  repeat' split
  all_goals exact⟨_,_,_,rfl,by decide,by decide,by decide⟩
 obtain⟨t0,t1,t2,t3⟩:=(hf.ext hu1).at_ k (by omega)
 try simp only [Nat.reduceMul,Nat.reduceAdd] at t0 t1 t2 t3
 rw [show hasF (k:Nat)=(a,b,c) from habc] at t0 t1 t2
 simp only at t0 t1 t2
 have ha0:(0:Int)≤a:=by omega
 have hb0:(0:Int)≤b:=by omega
 have hc0:(0:Int)≤c:=by omega
 have ha1:(a:Int)≤17:=by omega
 have hb1:(b:Int)≤17:=by omega
 have hc1:(c:Int)≤17:=by omega
 obtain⟨hs0,hs1,hs2⟩:¬nms.length<a∧¬b<nms.length∧l.length=c:=by
  unfold kBq at hsb
  rw [habc] at hsb
  simp at hsb
  omega
 have q0:¬(nms.length:Int)<a:=by omega
 have q1:¬(b:Int)<nms.length:=by omega
 have q2:((l.length:Int)==(c:Int))=true:=by rw [hs2,beq_iff_eq]
 have q2b:((l.length:Int) != (c:Int))=false:=by rw [bne,q2];rfl
 have HB1:=Lib.hid (kAq w (.cells #[.int .i64 (k:Int),.slice a1 nms.length c1,.int .i64 0,.int .i64 0,.int .i64 mm,.slice a2 l.length c2] 34))
 have HU1:=Lib.hid hu1
 have hb:=kAq w (.cells #[.int .i64 (k:Int),.slice a1 nms.length c1,.int .i64 0,.int .i64 0,.int .i64 mm,.slice a2 l.length c2] 34)
 obtain⟨y0,y1,y2,y3,y4,y5⟩:=kAx hb
 rw [show decide (16≤k)=false from decide_eq_false (by omega)] at t3
 rw [hall] at HCF
 have HBF:=Lib.hid (kFz w (.cells #[.int .i64 (k:Int),.slice a1 nms.length c1,.int .i64 0,.int .i64 0,.int .i64 mm,.slice a2 l.length c2] 34) (.cells #[.int .i64 a,.int .i64 b,.int .i64 c,.bool false] 159))
 have HU2:Hid (Upto [] w ((w.alloc (.cells #[.int .i64 (k:Int),.slice a1 nms.length c1,.int .i64 0,.int .i64 0,.int .i64 mm,.slice a2 l.length c2] 34)).alloc (.cells #[.int .i64 a,.int .i64 b,.int .i64 c,.bool false] 159))):=Lib.hid (hu1.alloc _)
 have HBO:=Lib.hid (kCx hb (.cells #[.int .i64 a,.int .i64 b,.int .i64 c,.bool false] 159))
 have e7:((k:Int)==(7:Int))=false:=by rw [beq_eq_false_iff_ne];exact o7
 have f7:((k:Int) != (7:Int))=true:=by rw [bne,e7];rfl
 have e8:((k:Int)==(8:Int))=false:=by rw [beq_eq_false_iff_ne];exact o8
 have f8:((k:Int) != (8:Int))=true:=by rw [bne,e8];rfl
 have emm0:(mm==(0:Int))=false:=by rw [beq_eq_false_iff_ne];exact hz
 have fmm0:(mm != (0:Int))=true:=by rw [bne,emm0];rfl
 clear habc hsb hall h hs hg hu1 hnm ev hin hb hs2 he hf
 go_enter Tryz.func93,Tryz.ntmps93
 go_wp2_with fail
 refine (HCF.out _ HU2.out).mono ?_
 rintro e w5 ⟨rfl,hu5⟩
 have HU5:=Lib.hid (HU2.out.trans_ext hu5)
 have hb5:=hu5.at HBO.out (by simp)
 have hf5:=hu5.at HBF.out (by simp)
 have z0:=kAz hb5 0
 have z1:=kAz hb5 1
 have z2:=kAz hb5 2
 have z3:=kAz hb5 3
 have z4:=kAz hb5 4
 have z5:=kAz hb5 5
 have x3:=kAz hf5 3
 simp only [List.getElem?_toArray,List.getElem?_cons_zero,List.getElem?_cons_succ] at z0 z1 z2 z3 z4 z5 x3
 clear hu5 hb5 hf5 y0 y1 y2 y3 y4 y5 t0 t1 t2 t3
 go_wp2_with fail
 go_ret
 exact⟨rfl,HU5.out⟩
theorem has_og (k:Nat) (nms:List (List UInt8)) (l:List Nd) (hin:inN 10000000 (.mk (k:Int) nms 0 0 0 l)) (v:Value) (w:World) (P:Nat→Prop) (h:NdV w P (.mk (k:Int) nms 0 0 0 l) v) (he:Env w) (hf:FEnv w) (hk0:(0:Int)≤(k:Int)) (hk1:((k:Int):Int)≤17) (hsb:kBq (k:Int) nms.length l.length=false) (hall:nms.all kKw=true) (o7:(k:Int)≠7) (o8:(k:Int)≠8) (o16:k<16):Calls Tryz.prog 93 #[v] w fun e w'=>e=.returned (.bool true)∧Upto [] w w':=by
 obtain⟨a1,c1,a2,c2,rfl,hs,hg⟩:=h.open
 unfold inN at hin
 obtain⟨a1',c1',ev,hnm⟩:=hs.get
 obtain⟨rfl,rfl⟩:a1=a1'∧c1=c1':=by simpa using ev
 have hu1:Upto [] w (w.alloc (.cells #[.int .i64 (k:Int),.slice a1 nms.length c1,.int .i64 0,.int .i64 0,.int .i64 0,.slice a2 l.length c2] 34)):=(Upto.refl [] w).alloc _
 have hll:=hin.2.2.1
 have hnl:=hin.1
 have HCF:=Lib.hid (fun u (hu:Upto [] w u)=>kGq nms a1 c1 u (he.ext hu) hnl hin.2.1 (fun i x hi=>by
  obtain⟨g,o,e1,e2⟩:=hnm i _ (by rw [List.getElem?_map,hi];rfl)
  exact⟨g,o,e1,(hu.cell (p:=⟨g,o+i,none⟩) (World.block_lt_of_cell? w _ e2) (by simp)).trans e2⟩))
 have hL0:(0:Int)≤l.length:=by omega
 have hL1:(l.length:Int)≤10000000:=by omega
 have hN0:(0:Int)≤nms.length:=by omega
 have hN1:(nms.length:Int)≤10000000:=by omega
 obtain⟨a,b,c,habc,ha17,hb17,hc17⟩:∃a b c:Nat,hasF (k:Int)=(a,b,c)∧a≤17∧b≤17∧c≤17:=by
  unfold hasF
  repeat' split
  all_goals exact⟨_,_,_,rfl,by decide,by decide,by decide⟩
 obtain⟨t0,t1,t2,t3⟩:=(hf.ext hu1).at_ k (by omega)
 try simp only [Nat.reduceMul,Nat.reduceAdd] at t0 t1 t2 t3
 rw [show hasF (k:Nat)=(a,b,c) from habc] at t0 t1 t2
 simp only at t0 t1 t2
 have ha0:(0:Int)≤a:=by omega
 have hb0:(0:Int)≤b:=by omega
 have hc0:(0:Int)≤c:=by omega
 have ha1:(a:Int)≤17:=by omega
 have hb1:(b:Int)≤17:=by omega
 have hc1:(c:Int)≤17:=by omega
 obtain⟨hs0,hs1,hs2⟩:¬nms.length<a∧¬b<nms.length∧l.length=c:=by
  unfold kBq at hsb
  rw [habc] at hsb
  simp at hsb
  omega
 have q0:¬(nms.length:Int)<a:=by omega
 have q1:¬(b:Int)<nms.length:=by omega
 have q2:((l.length:Int)==(c:Int))=true:=by rw [hs2,beq_iff_eq]
 have q2b:((l.length:Int) != (c:Int))=false:=by rw [bne,q2];rfl
 have HB1:=Lib.hid (kAq w (.cells #[.int .i64 (k:Int),.slice a1 nms.length c1,.int .i64 0,.int .i64 0,.int .i64 0,.slice a2 l.length c2] 34))
 have HU1:=Lib.hid hu1
 have hb:=kAq w (.cells #[.int .i64 (k:Int),.slice a1 nms.length c1,.int .i64 0,.int .i64 0,.int .i64 0,.slice a2 l.length c2] 34)
 obtain⟨y0,y1,y2,y3,y4,y5⟩:=kAx hb
 rw [show decide (16≤k)=false from decide_eq_false (by omega)] at t3
 rw [hall] at HCF
 have HBF:=Lib.hid (kFz w (.cells #[.int .i64 (k:Int),.slice a1 nms.length c1,.int .i64 0,.int .i64 0,.int .i64 0,.slice a2 l.length c2] 34) (.cells #[.int .i64 a,.int .i64 b,.int .i64 c,.bool false] 159))
 have HU2:Hid (Upto [] w ((w.alloc (.cells #[.int .i64 (k:Int),.slice a1 nms.length c1,.int .i64 0,.int .i64 0,.int .i64 0,.slice a2 l.length c2] 34)).alloc (.cells #[.int .i64 a,.int .i64 b,.int .i64 c,.bool false] 159))):=Lib.hid (hu1.alloc _)
 have HBO:=Lib.hid (kCx hb (.cells #[.int .i64 a,.int .i64 b,.int .i64 c,.bool false] 159))
 have e7:((k:Int)==(7:Int))=false:=by rw [beq_eq_false_iff_ne];exact o7
 have f7:((k:Int) != (7:Int))=true:=by rw [bne,e7];rfl
 have e8:((k:Int)==(8:Int))=false:=by rw [beq_eq_false_iff_ne];exact o8
 have f8:((k:Int) != (8:Int))=true:=by rw [bne,e8];rfl
 clear habc hsb hall h hs hg hu1 hnm ev hin hb hs2 he hf
 go_enter Tryz.func93,Tryz.ntmps93
 go_wp2_with fail
 refine (HCF.out _ HU2.out).mono ?_
 rintro e w5 ⟨rfl,hu5⟩
 have HU5:=Lib.hid (HU2.out.trans_ext hu5)
 have hb5:=hu5.at HBO.out (by simp)
 have hf5:=hu5.at HBF.out (by simp)
 have z0:=kAz hb5 0
 have z1:=kAz hb5 1
 have z2:=kAz hb5 2
 have z3:=kAz hb5 3
 have z4:=kAz hb5 4
 have z5:=kAz hb5 5
 have x3:=kAz hf5 3
 simp only [List.getElem?_toArray,List.getElem?_cons_zero,List.getElem?_cons_succ] at z0 z1 z2 z3 z4 z5 x3
 clear hu5 hb5 hf5 y0 y1 y2 y3 y4 y5 t0 t1 t2 t3
 go_wp2_with fail
 go_ret
 exact⟨rfl,HU5.out⟩
theorem has_hb (k:Nat) (so nn mm:Int) (nms:List (List UInt8)) (l:List Nd) (hin:inN 10000000 (.mk (k:Int) nms so nn mm l)) (v:Value) (w:World) (P:Nat→Prop) (h:NdV w P (.mk (k:Int) nms so nn mm l) v) (he:Env w) (hf:FEnv w) (hk0:(0:Int)≤(k:Int)) (hk1:((k:Int):Int)≤17) (hsb:kBq (k:Int) nms.length l.length=false) (hall:nms.all kKw=true) (o7:(k:Int)≠7) (o8:(k:Int)≠8) (o16:¬k<16) (hz:nn≠0):Calls Tryz.prog 93 #[v] w fun e w'=>e=.returned (.bool false)∧Upto [] w w':=by
 obtain⟨a1,c1,a2,c2,rfl,hs,hg⟩:=h.open
 unfold inN at hin
 obtain⟨a1',c1',ev,hnm⟩:=hs.get
 obtain⟨rfl,rfl⟩:a1=a1'∧c1=c1':=by simpa using ev
 have hu1:Upto [] w (w.alloc (.cells #[.int .i64 (k:Int),.slice a1 nms.length c1,.int .i64 so,.int .i64 nn,.int .i64 mm,.slice a2 l.length c2] 34)):=(Upto.refl [] w).alloc _
 have hll:=hin.2.2.1
 have hnl:=hin.1
 have HCF:=Lib.hid (fun u (hu:Upto [] w u)=>kGq nms a1 c1 u (he.ext hu) hnl hin.2.1 (fun i x hi=>by
  obtain⟨g,o,e1,e2⟩:=hnm i _ (by rw [List.getElem?_map,hi];rfl)
  exact⟨g,o,e1,(hu.cell (p:=⟨g,o+i,none⟩) (World.block_lt_of_cell? w _ e2) (by simp)).trans e2⟩))
 have hL0:(0:Int)≤l.length:=by omega
 have hL1:(l.length:Int)≤10000000:=by omega
 have hN0:(0:Int)≤nms.length:=by omega
 have hN1:(nms.length:Int)≤10000000:=by omega
 obtain⟨a,b,c,habc,ha17,hb17,hc17⟩:∃a b c:Nat,hasF (k:Int)=(a,b,c)∧a≤17∧b≤17∧c≤17:=by
  unfold hasF
  repeat' split
  all_goals exact⟨_,_,_,rfl,by decide,by decide,by decide⟩
 obtain⟨t0,t1,t2,t3⟩:=(hf.ext hu1).at_ k (by omega)
 try simp only [Nat.reduceMul,Nat.reduceAdd] at t0 t1 t2 t3
 rw [show hasF (k:Nat)=(a,b,c) from habc] at t0 t1 t2
 simp only at t0 t1 t2
 have ha0:(0:Int)≤a:=by omega
 have hb0:(0:Int)≤b:=by omega
 have hc0:(0:Int)≤c:=by omega
 have ha1:(a:Int)≤17:=by omega
 have hb1:(b:Int)≤17:=by omega
 have hc1:(c:Int)≤17:=by omega
 obtain⟨hs0,hs1,hs2⟩:¬nms.length<a∧¬b<nms.length∧l.length=c:=by
  unfold kBq at hsb
  rw [habc] at hsb
  simp at hsb
  omega
 have q0:¬(nms.length:Int)<a:=by omega
 have q1:¬(b:Int)<nms.length:=by omega
 have q2:((l.length:Int)==(c:Int))=true:=by rw [hs2,beq_iff_eq]
 have q2b:((l.length:Int) != (c:Int))=false:=by rw [bne,q2];rfl
 have HB1:=Lib.hid (kAq w (.cells #[.int .i64 (k:Int),.slice a1 nms.length c1,.int .i64 so,.int .i64 nn,.int .i64 mm,.slice a2 l.length c2] 34))
 have HU1:=Lib.hid hu1
 have hb:=kAq w (.cells #[.int .i64 (k:Int),.slice a1 nms.length c1,.int .i64 so,.int .i64 nn,.int .i64 mm,.slice a2 l.length c2] 34)
 obtain⟨y0,y1,y2,y3,y4,y5⟩:=kAx hb
 rw [show decide (16≤k)=true from decide_eq_true (by omega)] at t3
 rw [hall] at HCF
 have HBF:=Lib.hid (kFz w (.cells #[.int .i64 (k:Int),.slice a1 nms.length c1,.int .i64 so,.int .i64 nn,.int .i64 mm,.slice a2 l.length c2] 34) (.cells #[.int .i64 a,.int .i64 b,.int .i64 c,.bool true] 159))
 have HU2:Hid (Upto [] w ((w.alloc (.cells #[.int .i64 (k:Int),.slice a1 nms.length c1,.int .i64 so,.int .i64 nn,.int .i64 mm,.slice a2 l.length c2] 34)).alloc (.cells #[.int .i64 a,.int .i64 b,.int .i64 c,.bool true] 159))):=Lib.hid (hu1.alloc _)
 have HBO:=Lib.hid (kCx hb (.cells #[.int .i64 a,.int .i64 b,.int .i64 c,.bool true] 159))
 have e7:((k:Int)==(7:Int))=false:=by rw [beq_eq_false_iff_ne];exact o7
 have f7:((k:Int) != (7:Int))=true:=by rw [bne,e7];rfl
 have e8:((k:Int)==(8:Int))=false:=by rw [beq_eq_false_iff_ne];exact o8
 have f8:((k:Int) != (8:Int))=true:=by rw [bne,e8];rfl
 have enn0:(nn==(0:Int))=false:=by rw [beq_eq_false_iff_ne];exact hz
 have fnn0:(nn != (0:Int))=true:=by rw [bne,enn0];rfl
 clear habc hsb hall h hs hg hu1 hnm ev hin hb hs2 he hf
 go_enter Tryz.func93,Tryz.ntmps93
 go_wp2_with fail
 refine (HCF.out _ HU2.out).mono ?_
 rintro e w5 ⟨rfl,hu5⟩
 have HU5:=Lib.hid (HU2.out.trans_ext hu5)
 have hb5:=hu5.at HBO.out (by simp)
 have hf5:=hu5.at HBF.out (by simp)
 have z0:=kAz hb5 0
 have z1:=kAz hb5 1
 have z2:=kAz hb5 2
 have z3:=kAz hb5 3
 have z4:=kAz hb5 4
 have z5:=kAz hb5 5
 have x3:=kAz hf5 3
 simp only [List.getElem?_toArray,List.getElem?_cons_zero,List.getElem?_cons_succ] at z0 z1 z2 z3 z4 z5 x3
 clear hu5 hb5 hf5 y0 y1 y2 y3 y4 y5 t0 t1 t2 t3
 go_wp2_with fail
 go_ret
 exact⟨rfl,HU5.out⟩
theorem has_hc (k:Nat) (so mm:Int) (nms:List (List UInt8)) (l:List Nd) (hin:inN 10000000 (.mk (k:Int) nms so 0 mm l)) (v:Value) (w:World) (P:Nat→Prop) (h:NdV w P (.mk (k:Int) nms so 0 mm l) v) (he:Env w) (hf:FEnv w) (hk0:(0:Int)≤(k:Int)) (hk1:((k:Int):Int)≤17) (hsb:kBq (k:Int) nms.length l.length=false) (hall:nms.all kKw=true) (o7:(k:Int)≠7) (o8:(k:Int)≠8) (o16:¬k<16) (hz:mm≠0):Calls Tryz.prog 93 #[v] w fun e w'=>e=.returned (.bool false)∧Upto [] w w':=by
 obtain⟨a1,c1,a2,c2,rfl,hs,hg⟩:=h.open
 unfold inN at hin
 obtain⟨a1',c1',ev,hnm⟩:=hs.get
 obtain⟨rfl,rfl⟩:a1=a1'∧c1=c1':=by simpa using ev
 have hu1:Upto [] w (w.alloc (.cells #[.int .i64 (k:Int),.slice a1 nms.length c1,.int .i64 so,.int .i64 0,.int .i64 mm,.slice a2 l.length c2] 34)):=(Upto.refl [] w).alloc _
 have hll:=hin.2.2.1
 have hnl:=hin.1
 have HCF:=Lib.hid (fun u (hu:Upto [] w u)=>kGq nms a1 c1 u (he.ext hu) hnl hin.2.1 (fun i x hi=>by
  obtain⟨g,o,e1,e2⟩:=hnm i _ (by rw [List.getElem?_map,hi];rfl)
  exact⟨g,o,e1,(hu.cell (p:=⟨g,o+i,none⟩) (World.block_lt_of_cell? w _ e2) (by simp)).trans e2⟩))
 have hL0:(0:Int)≤l.length:=by omega
 have hL1:(l.length:Int)≤10000000:=by omega
 have hN0:(0:Int)≤nms.length:=by omega
 have hN1:(nms.length:Int)≤10000000:=by omega
 obtain⟨a,b,c,habc,ha17,hb17,hc17⟩:∃a b c:Nat,hasF (k:Int)=(a,b,c)∧a≤17∧b≤17∧c≤17:=by
  unfold hasF
  repeat' split
  all_goals exact⟨_,_,_,rfl,by decide,by decide,by decide⟩
 obtain⟨t0,t1,t2,t3⟩:=(hf.ext hu1).at_ k (by omega)
 try simp only [Nat.reduceMul,Nat.reduceAdd] at t0 t1 t2 t3
 rw [show hasF (k:Nat)=(a,b,c) from habc] at t0 t1 t2
 simp only at t0 t1 t2
 have ha0:(0:Int)≤a:=by omega
 have hb0:(0:Int)≤b:=by omega
 have hc0:(0:Int)≤c:=by omega
 have ha1:(a:Int)≤17:=by omega
 have hb1:(b:Int)≤17:=by omega
 have hc1:(c:Int)≤17:=by omega
 obtain⟨hs0,hs1,hs2⟩:¬nms.length<a∧¬b<nms.length∧l.length=c:=by
  unfold kBq at hsb
  rw [habc] at hsb
  simp at hsb
  omega
 have q0:¬(nms.length:Int)<a:=by omega
 have q1:¬(b:Int)<nms.length:=by omega
 have q2:((l.length:Int)==(c:Int))=true:=by rw [hs2,beq_iff_eq]
 have q2b:((l.length:Int) != (c:Int))=false:=by rw [bne,q2];rfl
 have HB1:=Lib.hid (kAq w (.cells #[.int .i64 (k:Int),.slice a1 nms.length c1,.int .i64 so,.int .i64 0,.int .i64 mm,.slice a2 l.length c2] 34))
 have HU1:=Lib.hid hu1
 have hb:=kAq w (.cells #[.int .i64 (k:Int),.slice a1 nms.length c1,.int .i64 so,.int .i64 0,.int .i64 mm,.slice a2 l.length c2] 34)
 obtain⟨y0,y1,y2,y3,y4,y5⟩:=kAx hb
 rw [show decide (16≤k)=true from decide_eq_true (by omega)] at t3
 rw [hall] at HCF
 have HBF:=Lib.hid (kFz w (.cells #[.int .i64 (k:Int),.slice a1 nms.length c1,.int .i64 so,.int .i64 0,.int .i64 mm,.slice a2 l.length c2] 34) (.cells #[.int .i64 a,.int .i64 b,.int .i64 c,.bool true] 159))
 have HU2:Hid (Upto [] w ((w.alloc (.cells #[.int .i64 (k:Int),.slice a1 nms.length c1,.int .i64 so,.int .i64 0,.int .i64 mm,.slice a2 l.length c2] 34)).alloc (.cells #[.int .i64 a,.int .i64 b,.int .i64 c,.bool true] 159))):=Lib.hid (hu1.alloc _)
 have HBO:=Lib.hid (kCx hb (.cells #[.int .i64 a,.int .i64 b,.int .i64 c,.bool true] 159))
 have e7:((k:Int)==(7:Int))=false:=by rw [beq_eq_false_iff_ne];exact o7
 have f7:((k:Int) != (7:Int))=true:=by rw [bne,e7];rfl
 have e8:((k:Int)==(8:Int))=false:=by rw [beq_eq_false_iff_ne];exact o8
 have f8:((k:Int) != (8:Int))=true:=by rw [bne,e8];rfl
 have emm0:(mm==(0:Int))=false:=by rw [beq_eq_false_iff_ne];exact hz
 have fmm0:(mm != (0:Int))=true:=by rw [bne,emm0];rfl
 clear habc hsb hall h hs hg hu1 hnm ev hin hb hs2 he hf
 go_enter Tryz.func93,Tryz.ntmps93
 go_wp2_with fail
 refine (HCF.out _ HU2.out).mono ?_
 rintro e w5 ⟨rfl,hu5⟩
 have HU5:=Lib.hid (HU2.out.trans_ext hu5)
 have hb5:=hu5.at HBO.out (by simp)
 have hf5:=hu5.at HBF.out (by simp)
 have z0:=kAz hb5 0
 have z1:=kAz hb5 1
 have z2:=kAz hb5 2
 have z3:=kAz hb5 3
 have z4:=kAz hb5 4
 have z5:=kAz hb5 5
 have x3:=kAz hf5 3
 simp only [List.getElem?_toArray,List.getElem?_cons_zero,List.getElem?_cons_succ] at z0 z1 z2 z3 z4 z5 x3
 clear hu5 hb5 hf5 y0 y1 y2 y3 y4 y5 t0 t1 t2 t3
 go_wp2_with fail
 go_ret
 exact⟨rfl,HU5.out⟩
theorem has_hg (k:Nat) (so:Int) (nms:List (List UInt8)) (l:List Nd) (hin:inN 10000000 (.mk (k:Int) nms so 0 0 l)) (v:Value) (w:World) (P:Nat→Prop) (h:NdV w P (.mk (k:Int) nms so 0 0 l) v) (he:Env w) (hf:FEnv w) (hk0:(0:Int)≤(k:Int)) (hk1:((k:Int):Int)≤17) (hsb:kBq (k:Int) nms.length l.length=false) (hall:nms.all kKw=true) (o7:(k:Int)≠7) (o8:(k:Int)≠8) (o16:¬k<16):Calls Tryz.prog 93 #[v] w fun e w'=>e=.returned (.bool true)∧Upto [] w w':=by
 obtain⟨a1,c1,a2,c2,rfl,hs,hg⟩:=h.open
 unfold inN at hin
 obtain⟨a1',c1',ev,hnm⟩:=hs.get
 obtain⟨rfl,rfl⟩:a1=a1'∧c1=c1':=by simpa using ev
 have hu1:Upto [] w (w.alloc (.cells #[.int .i64 (k:Int),.slice a1 nms.length c1,.int .i64 so,.int .i64 0,.int .i64 0,.slice a2 l.length c2] 34)):=(Upto.refl [] w).alloc _
 have hll:=hin.2.2.1
 have hnl:=hin.1
 have HCF:=Lib.hid (fun u (hu:Upto [] w u)=>kGq nms a1 c1 u (he.ext hu) hnl hin.2.1 (fun i x hi=>by
  obtain⟨g,o,e1,e2⟩:=hnm i _ (by rw [List.getElem?_map,hi];rfl)
  exact⟨g,o,e1,(hu.cell (p:=⟨g,o+i,none⟩) (World.block_lt_of_cell? w _ e2) (by simp)).trans e2⟩))
 have hL0:(0:Int)≤l.length:=by omega
 have hL1:(l.length:Int)≤10000000:=by omega
 have hN0:(0:Int)≤nms.length:=by omega
 have hN1:(nms.length:Int)≤10000000:=by omega
 obtain⟨a,b,c,habc,ha17,hb17,hc17⟩:∃a b c:Nat,hasF (k:Int)=(a,b,c)∧a≤17∧b≤17∧c≤17:=by
  unfold hasF
  repeat' split
  all_goals exact⟨_,_,_,rfl,by decide,by decide,by decide⟩
 obtain⟨t0,t1,t2,t3⟩:=(hf.ext hu1).at_ k (by omega)
 try simp only [Nat.reduceMul,Nat.reduceAdd] at t0 t1 t2 t3
 rw [show hasF (k:Nat)=(a,b,c) from habc] at t0 t1 t2
 simp only at t0 t1 t2
 have ha0:(0:Int)≤a:=by omega
 have hb0:(0:Int)≤b:=by omega
 have hc0:(0:Int)≤c:=by omega
 have ha1:(a:Int)≤17:=by omega
 have hb1:(b:Int)≤17:=by omega
 have hc1:(c:Int)≤17:=by omega
 obtain⟨hs0,hs1,hs2⟩:¬nms.length<a∧¬b<nms.length∧l.length=c:=by
  unfold kBq at hsb
  rw [habc] at hsb
  simp at hsb
  omega
 have q0:¬(nms.length:Int)<a:=by omega
 have q1:¬(b:Int)<nms.length:=by omega
 have q2:((l.length:Int)==(c:Int))=true:=by rw [hs2,beq_iff_eq]
 have q2b:((l.length:Int) != (c:Int))=false:=by rw [bne,q2];rfl
 have HB1:=Lib.hid (kAq w (.cells #[.int .i64 (k:Int),.slice a1 nms.length c1,.int .i64 so,.int .i64 0,.int .i64 0,.slice a2 l.length c2] 34))
 have HU1:=Lib.hid hu1
 have hb:=kAq w (.cells #[.int .i64 (k:Int),.slice a1 nms.length c1,.int .i64 so,.int .i64 0,.int .i64 0,.slice a2 l.length c2] 34)
 obtain⟨y0,y1,y2,y3,y4,y5⟩:=kAx hb
 rw [show decide (16≤k)=true from decide_eq_true (by omega)] at t3
 rw [hall] at HCF
 have HBF:=Lib.hid (kFz w (.cells #[.int .i64 (k:Int),.slice a1 nms.length c1,.int .i64 so,.int .i64 0,.int .i64 0,.slice a2 l.length c2] 34) (.cells #[.int .i64 a,.int .i64 b,.int .i64 c,.bool true] 159))
 have HU2:Hid (Upto [] w ((w.alloc (.cells #[.int .i64 (k:Int),.slice a1 nms.length c1,.int .i64 so,.int .i64 0,.int .i64 0,.slice a2 l.length c2] 34)).alloc (.cells #[.int .i64 a,.int .i64 b,.int .i64 c,.bool true] 159))):=Lib.hid (hu1.alloc _)
 have HBO:=Lib.hid (kCx hb (.cells #[.int .i64 a,.int .i64 b,.int .i64 c,.bool true] 159))
 have e7:((k:Int)==(7:Int))=false:=by rw [beq_eq_false_iff_ne];exact o7
 have f7:((k:Int) != (7:Int))=true:=by rw [bne,e7];rfl
 have e8:((k:Int)==(8:Int))=false:=by rw [beq_eq_false_iff_ne];exact o8
 have f8:((k:Int) != (8:Int))=true:=by rw [bne,e8];rfl
 clear habc hsb hall h hs hg hu1 hnm ev hin hb hs2 he hf
 go_enter Tryz.func93,Tryz.ntmps93
 go_wp2_with fail
 refine (HCF.out _ HU2.out).mono ?_
 rintro e w5 ⟨rfl,hu5⟩
 have HU5:=Lib.hid (HU2.out.trans_ext hu5)
 have hb5:=hu5.at HBO.out (by simp)
 have hf5:=hu5.at HBF.out (by simp)
 have z0:=kAz hb5 0
 have z1:=kAz hb5 1
 have z2:=kAz hb5 2
 have z3:=kAz hb5 3
 have z4:=kAz hb5 4
 have z5:=kAz hb5 5
 have x3:=kAz hf5 3
 simp only [List.getElem?_toArray,List.getElem?_cons_zero,List.getElem?_cons_succ] at z0 z1 z2 z3 z4 z5 x3
 clear hu5 hb5 hf5 y0 y1 y2 y3 y4 y5 t0 t1 t2 t3
 go_wp2_with fail
 go_ret
 exact⟨rfl,HU5.out⟩
theorem has_n (k:Nat) (so nn mm:Int) (nms:List (List UInt8)) (l:List Nd) (hin:inN 10000000 (.mk (k:Int) nms so nn mm l)) (v:Value) (w:World) (P:Nat→Prop) (h:NdV w P (.mk (k:Int) nms so nn mm l) v) (he:Env w) (hf:FEnv w) (hk0:(0:Int)≤(k:Int)) (hk1:((k:Int):Int)≤17) (hsb:kBq (k:Int) nms.length l.length=false) (hall:nms.all kKw=false):Calls Tryz.prog 93 #[v] w fun e w'=>e=.returned (.bool false)∧Upto [] w w':=by
 obtain⟨a1,c1,a2,c2,rfl,hs,hg⟩:=h.open
 unfold inN at hin
 obtain⟨a1',c1',ev,hnm⟩:=hs.get
 obtain⟨rfl,rfl⟩:a1=a1'∧c1=c1':=by simpa using ev
 have hu1:Upto [] w (w.alloc (.cells #[.int .i64 (k:Int),.slice a1 nms.length c1,.int .i64 so,.int .i64 nn,.int .i64 mm,.slice a2 l.length c2] 34)):=(Upto.refl [] w).alloc _
 have hll:=hin.2.2.1
 have hnl:=hin.1
 have HCF:=Lib.hid (fun u (hu:Upto [] w u)=>kGq nms a1 c1 u (he.ext hu) hnl hin.2.1 (fun i x hi=>by
  obtain⟨g,o,e1,e2⟩:=hnm i _ (by rw [List.getElem?_map,hi];rfl)
  exact⟨g,o,e1,(hu.cell (p:=⟨g,o+i,none⟩) (World.block_lt_of_cell? w _ e2) (by simp)).trans e2⟩))
 have hL0:(0:Int)≤l.length:=by omega
 have hL1:(l.length:Int)≤10000000:=by omega
 have hN0:(0:Int)≤nms.length:=by omega
 have hN1:(nms.length:Int)≤10000000:=by omega
 obtain⟨a,b,c,habc,ha17,hb17,hc17⟩:∃a b c:Nat,hasF (k:Int)=(a,b,c)∧a≤17∧b≤17∧c≤17:=by
  unfold hasF
  repeat' split
  all_goals exact⟨_,_,_,rfl,by decide,by decide,by decide⟩
 obtain⟨t0,t1,t2,t3⟩:=(hf.ext hu1).at_ k (by omega)
 try simp only [Nat.reduceMul,Nat.reduceAdd] at t0 t1 t2 t3
 rw [show hasF (k:Nat)=(a,b,c) from habc] at t0 t1 t2
 simp only at t0 t1 t2
 have ha0:(0:Int)≤a:=by omega
 have hb0:(0:Int)≤b:=by omega
 have hc0:(0:Int)≤c:=by omega
 have ha1:(a:Int)≤17:=by omega
 have hb1:(b:Int)≤17:=by omega
 have hc1:(c:Int)≤17:=by omega
 obtain⟨hs0,hs1,hs2⟩:¬nms.length<a∧¬b<nms.length∧l.length=c:=by
  unfold kBq at hsb
  rw [habc] at hsb
  simp at hsb
  omega
 have q0:¬(nms.length:Int)<a:=by omega
 have q1:¬(b:Int)<nms.length:=by omega
 have q2:((l.length:Int)==(c:Int))=true:=by rw [hs2,beq_iff_eq]
 have q2b:((l.length:Int) != (c:Int))=false:=by rw [bne,q2];rfl
 have HB1:=Lib.hid (kAq w (.cells #[.int .i64 (k:Int),.slice a1 nms.length c1,.int .i64 so,.int .i64 nn,.int .i64 mm,.slice a2 l.length c2] 34))
 have HU1:=Lib.hid hu1
 have hb:=kAq w (.cells #[.int .i64 (k:Int),.slice a1 nms.length c1,.int .i64 so,.int .i64 nn,.int .i64 mm,.slice a2 l.length c2] 34)
 obtain⟨y0,y1,y2,y3,y4,y5⟩:=kAx hb
 rw [hall] at HCF
 have HBF:=Lib.hid (kFz w (.cells #[.int .i64 (k:Int),.slice a1 nms.length c1,.int .i64 so,.int .i64 nn,.int .i64 mm,.slice a2 l.length c2] 34) (.cells #[.int .i64 a,.int .i64 b,.int .i64 c,.bool (decide (16≤k))] 159))
 have HU2:Hid (Upto [] w ((w.alloc (.cells #[.int .i64 (k:Int),.slice a1 nms.length c1,.int .i64 so,.int .i64 nn,.int .i64 mm,.slice a2 l.length c2] 34)).alloc (.cells #[.int .i64 a,.int .i64 b,.int .i64 c,.bool (decide (16≤k))] 159))):=Lib.hid (hu1.alloc _)
 have HBO:=Lib.hid (kCx hb (.cells #[.int .i64 a,.int .i64 b,.int .i64 c,.bool (decide (16≤k))] 159))
 clear habc hsb hall h hs hg hu1 hnm ev hin hb hs2 he hf
 go_enter Tryz.func93,Tryz.ntmps93
 go_wp2_with fail
 refine (HCF.out _ HU2.out).mono ?_
 rintro e w5 ⟨rfl,hu5⟩
 have HU5:=Lib.hid (HU2.out.trans_ext hu5)
 have hb5:=hu5.at HBO.out (by simp)
 have hf5:=hu5.at HBF.out (by simp)
 clear hu5 hb5 hf5 y0 y1 y2 y3 y4 y5 t0 t1 t2 t3
 go_wp2_with fail
 go_ret
 exact⟨rfl,HU5.out⟩
theorem has_s1 (k:Nat) (so nn mm:Int) (nms:List (List UInt8)) (l:List Nd) (hin:inN 10000000 (.mk (k:Int) nms so nn mm l)) (v:Value) (w:World) (P:Nat→Prop) (h:NdV w P (.mk (k:Int) nms so nn mm l) v) (he:Env w) (hf:FEnv w) (hk0:(0:Int)≤(k:Int)) (hk1:((k:Int):Int)≤17) (_hsb:kBq (k:Int) nms.length l.length=true) (hs0:nms.length<(hasF (k:Int)).1):Calls Tryz.prog 93 #[v] w fun e w'=>e=.returned (.bool false)∧Upto [] w w':=by
 obtain⟨a1,c1,a2,c2,rfl,hs,hg⟩:=h.open
 unfold inN at hin
 obtain⟨a1',c1',ev,hnm⟩:=hs.get
 obtain⟨rfl,rfl⟩:a1=a1'∧c1=c1':=by simpa using ev
 have hu1:Upto [] w (w.alloc (.cells #[.int .i64 (k:Int),.slice a1 nms.length c1,.int .i64 so,.int .i64 nn,.int .i64 mm,.slice a2 l.length c2] 34)):=(Upto.refl [] w).alloc _
 have hll:=hin.2.2.1
 have hnl:=hin.1
 have HCF:=Lib.hid (fun u (hu:Upto [] w u)=>kGq nms a1 c1 u (he.ext hu) hnl hin.2.1 (fun i x hi=>by
  obtain⟨g,o,e1,e2⟩:=hnm i _ (by rw [List.getElem?_map,hi];rfl)
  exact⟨g,o,e1,(hu.cell (p:=⟨g,o+i,none⟩) (World.block_lt_of_cell? w _ e2) (by simp)).trans e2⟩))
 have hL0:(0:Int)≤l.length:=by omega
 have hL1:(l.length:Int)≤10000000:=by omega
 have hN0:(0:Int)≤nms.length:=by omega
 have hN1:(nms.length:Int)≤10000000:=by omega
 obtain⟨a,b,c,habc,ha17,hb17,hc17⟩:∃a b c:Nat,hasF (k:Int)=(a,b,c)∧a≤17∧b≤17∧c≤17:=by
  unfold hasF
  repeat' split
  all_goals exact⟨_,_,_,rfl,by decide,by decide,by decide⟩
 obtain⟨t0,t1,t2,t3⟩:=(hf.ext hu1).at_ k (by omega)
 try simp only [Nat.reduceMul,Nat.reduceAdd] at t0 t1 t2 t3
 rw [show hasF (k:Nat)=(a,b,c) from habc] at t0 t1 t2
 simp only at t0 t1 t2
 have ha0:(0:Int)≤a:=by omega
 have hb0:(0:Int)≤b:=by omega
 have hc0:(0:Int)≤c:=by omega
 have ha1:(a:Int)≤17:=by omega
 have hb1:(b:Int)≤17:=by omega
 have hc1:(c:Int)≤17:=by omega
 rw [habc] at hs0
 simp only at hs0
 have q0:(nms.length:Int)<a:=by omega
 have HB1:=Lib.hid (kAq w (.cells #[.int .i64 (k:Int),.slice a1 nms.length c1,.int .i64 so,.int .i64 nn,.int .i64 mm,.slice a2 l.length c2] 34))
 have HU1:=Lib.hid hu1
 have hb:=kAq w (.cells #[.int .i64 (k:Int),.slice a1 nms.length c1,.int .i64 so,.int .i64 nn,.int .i64 mm,.slice a2 l.length c2] 34)
 obtain⟨y0,y1,y2,y3,y4,y5⟩:=kAx hb
 have HBF:=Lib.hid (kFz w (.cells #[.int .i64 (k:Int),.slice a1 nms.length c1,.int .i64 so,.int .i64 nn,.int .i64 mm,.slice a2 l.length c2] 34) (.cells #[.int .i64 a,.int .i64 b,.int .i64 c,.bool (decide (16≤k))] 159))
 have HU2:Hid (Upto [] w ((w.alloc (.cells #[.int .i64 (k:Int),.slice a1 nms.length c1,.int .i64 so,.int .i64 nn,.int .i64 mm,.slice a2 l.length c2] 34)).alloc (.cells #[.int .i64 a,.int .i64 b,.int .i64 c,.bool (decide (16≤k))] 159))):=Lib.hid (hu1.alloc _)
 have HBO:=Lib.hid (kCx hb (.cells #[.int .i64 a,.int .i64 b,.int .i64 c,.bool (decide (16≤k))] 159))
 clear habc _hsb h hs hg hu1 hnm ev hin hb he hf
 go_enter Tryz.func93,Tryz.ntmps93
 go_wp2_with fail
 go_ret
 exact⟨rfl,HU2.out⟩
theorem has_s2 (k:Nat) (so nn mm:Int) (nms:List (List UInt8)) (l:List Nd) (hin:inN 10000000 (.mk (k:Int) nms so nn mm l)) (v:Value) (w:World) (P:Nat→Prop) (h:NdV w P (.mk (k:Int) nms so nn mm l) v) (he:Env w) (hf:FEnv w) (hk0:(0:Int)≤(k:Int)) (hk1:((k:Int):Int)≤17) (_hsb:kBq (k:Int) nms.length l.length=true) (hs0:¬nms.length<(hasF (k:Int)).1) (hs1:(hasF (k:Int)).2.1<nms.length):Calls Tryz.prog 93 #[v] w fun e w'=>e=.returned (.bool false)∧Upto [] w w':=by
 obtain⟨a1,c1,a2,c2,rfl,hs,hg⟩:=h.open
 unfold inN at hin
 obtain⟨a1',c1',ev,hnm⟩:=hs.get
 obtain⟨rfl,rfl⟩:a1=a1'∧c1=c1':=by simpa using ev
 have hu1:Upto [] w (w.alloc (.cells #[.int .i64 (k:Int),.slice a1 nms.length c1,.int .i64 so,.int .i64 nn,.int .i64 mm,.slice a2 l.length c2] 34)):=(Upto.refl [] w).alloc _
 have hll:=hin.2.2.1
 have hnl:=hin.1
 have HCF:=Lib.hid (fun u (hu:Upto [] w u)=>kGq nms a1 c1 u (he.ext hu) hnl hin.2.1 (fun i x hi=>by
  obtain⟨g,o,e1,e2⟩:=hnm i _ (by rw [List.getElem?_map,hi];rfl)
  exact⟨g,o,e1,(hu.cell (p:=⟨g,o+i,none⟩) (World.block_lt_of_cell? w _ e2) (by simp)).trans e2⟩))
 have hL0:(0:Int)≤l.length:=by omega
 have hL1:(l.length:Int)≤10000000:=by omega
 have hN0:(0:Int)≤nms.length:=by omega
 have hN1:(nms.length:Int)≤10000000:=by omega
 obtain⟨a,b,c,habc,ha17,hb17,hc17⟩:∃a b c:Nat,hasF (k:Int)=(a,b,c)∧a≤17∧b≤17∧c≤17:=by
  unfold hasF
  repeat' split
  all_goals exact⟨_,_,_,rfl,by decide,by decide,by decide⟩
 obtain⟨t0,t1,t2,t3⟩:=(hf.ext hu1).at_ k (by omega)
 try simp only [Nat.reduceMul,Nat.reduceAdd] at t0 t1 t2 t3
 rw [show hasF (k:Nat)=(a,b,c) from habc] at t0 t1 t2
 simp only at t0 t1 t2
 have ha0:(0:Int)≤a:=by omega
 have hb0:(0:Int)≤b:=by omega
 have hc0:(0:Int)≤c:=by omega
 have ha1:(a:Int)≤17:=by omega
 have hb1:(b:Int)≤17:=by omega
 have hc1:(c:Int)≤17:=by omega
 rw [habc] at hs0 hs1
 simp only at hs0 hs1
 have q0:¬(nms.length:Int)<a:=by omega
 have q1:(b:Int)<nms.length:=by omega
 have HB1:=Lib.hid (kAq w (.cells #[.int .i64 (k:Int),.slice a1 nms.length c1,.int .i64 so,.int .i64 nn,.int .i64 mm,.slice a2 l.length c2] 34))
 have HU1:=Lib.hid hu1
 have hb:=kAq w (.cells #[.int .i64 (k:Int),.slice a1 nms.length c1,.int .i64 so,.int .i64 nn,.int .i64 mm,.slice a2 l.length c2] 34)
 obtain⟨y0,y1,y2,y3,y4,y5⟩:=kAx hb
 have HBF:=Lib.hid (kFz w (.cells #[.int .i64 (k:Int),.slice a1 nms.length c1,.int .i64 so,.int .i64 nn,.int .i64 mm,.slice a2 l.length c2] 34) (.cells #[.int .i64 a,.int .i64 b,.int .i64 c,.bool (decide (16≤k))] 159))
 have HU2:Hid (Upto [] w ((w.alloc (.cells #[.int .i64 (k:Int),.slice a1 nms.length c1,.int .i64 so,.int .i64 nn,.int .i64 mm,.slice a2 l.length c2] 34)).alloc (.cells #[.int .i64 a,.int .i64 b,.int .i64 c,.bool (decide (16≤k))] 159))):=Lib.hid (hu1.alloc _)
 have HBO:=Lib.hid (kCx hb (.cells #[.int .i64 a,.int .i64 b,.int .i64 c,.bool (decide (16≤k))] 159))
 clear habc _hsb h hs hg hu1 hnm ev hin hb he hf
 go_enter Tryz.func93,Tryz.ntmps93
 go_wp2_with fail
 go_ret
 exact⟨rfl,HU2.out⟩
theorem has_s3 (k:Nat) (so nn mm:Int) (nms:List (List UInt8)) (l:List Nd) (hin:inN 10000000 (.mk (k:Int) nms so nn mm l)) (v:Value) (w:World) (P:Nat→Prop) (h:NdV w P (.mk (k:Int) nms so nn mm l) v) (he:Env w) (hf:FEnv w) (hk0:(0:Int)≤(k:Int)) (hk1:((k:Int):Int)≤17) (_hsb:kBq (k:Int) nms.length l.length=true) (hs0:¬nms.length<(hasF (k:Int)).1) (hs1:¬(hasF (k:Int)).2.1<nms.length) (hs3:l.length≠(hasF (k:Int)).2.2):Calls Tryz.prog 93 #[v] w fun e w'=>e=.returned (.bool false)∧Upto [] w w':=by
 obtain⟨a1,c1,a2,c2,rfl,hs,hg⟩:=h.open
 unfold inN at hin
 obtain⟨a1',c1',ev,hnm⟩:=hs.get
 obtain⟨rfl,rfl⟩:a1=a1'∧c1=c1':=by simpa using ev
 have hu1:Upto [] w (w.alloc (.cells #[.int .i64 (k:Int),.slice a1 nms.length c1,.int .i64 so,.int .i64 nn,.int .i64 mm,.slice a2 l.length c2] 34)):=(Upto.refl [] w).alloc _
 have hll:=hin.2.2.1
 have hnl:=hin.1
 have HCF:=Lib.hid (fun u (hu:Upto [] w u)=>kGq nms a1 c1 u (he.ext hu) hnl hin.2.1 (fun i x hi=>by
  obtain⟨g,o,e1,e2⟩:=hnm i _ (by rw [List.getElem?_map,hi];rfl)
  exact⟨g,o,e1,(hu.cell (p:=⟨g,o+i,none⟩) (World.block_lt_of_cell? w _ e2) (by simp)).trans e2⟩))
 have hL0:(0:Int)≤l.length:=by omega
 have hL1:(l.length:Int)≤10000000:=by omega
 have hN0:(0:Int)≤nms.length:=by omega
 have hN1:(nms.length:Int)≤10000000:=by omega
 obtain⟨a,b,c,habc,ha17,hb17,hc17⟩:∃a b c:Nat,hasF (k:Int)=(a,b,c)∧a≤17∧b≤17∧c≤17:=by
  unfold hasF
  repeat' split
  all_goals exact⟨_,_,_,rfl,by decide,by decide,by decide⟩
 obtain⟨t0,t1,t2,t3⟩:=(hf.ext hu1).at_ k (by omega)
 try simp only [Nat.reduceMul,Nat.reduceAdd] at t0 t1 t2 t3
 rw [show hasF (k:Nat)=(a,b,c) from habc] at t0 t1 t2
 simp only at t0 t1 t2
 have ha0:(0:Int)≤a:=by omega
 have hb0:(0:Int)≤b:=by omega
 have hc0:(0:Int)≤c:=by omega
 have ha1:(a:Int)≤17:=by omega
 have hb1:(b:Int)≤17:=by omega
 have hc1:(c:Int)≤17:=by omega
 rw [habc] at hs0 hs1 hs3
 simp only at hs0 hs1 hs3
 have q0:¬(nms.length:Int)<a:=by omega
 have q1:¬(b:Int)<nms.length:=by omega
 have q2:((l.length:Int)==(c:Int))=false:=by rw [beq_eq_false_iff_ne];omega
 have q2b:((l.length:Int) != (c:Int))=true:=by rw [bne,q2];rfl
 have HB1:=Lib.hid (kAq w (.cells #[.int .i64 (k:Int),.slice a1 nms.length c1,.int .i64 so,.int .i64 nn,.int .i64 mm,.slice a2 l.length c2] 34))
 have HU1:=Lib.hid hu1
 have hb:=kAq w (.cells #[.int .i64 (k:Int),.slice a1 nms.length c1,.int .i64 so,.int .i64 nn,.int .i64 mm,.slice a2 l.length c2] 34)
 obtain⟨y0,y1,y2,y3,y4,y5⟩:=kAx hb
 have HBF:=Lib.hid (kFz w (.cells #[.int .i64 (k:Int),.slice a1 nms.length c1,.int .i64 so,.int .i64 nn,.int .i64 mm,.slice a2 l.length c2] 34) (.cells #[.int .i64 a,.int .i64 b,.int .i64 c,.bool (decide (16≤k))] 159))
 have HU2:Hid (Upto [] w ((w.alloc (.cells #[.int .i64 (k:Int),.slice a1 nms.length c1,.int .i64 so,.int .i64 nn,.int .i64 mm,.slice a2 l.length c2] 34)).alloc (.cells #[.int .i64 a,.int .i64 b,.int .i64 c,.bool (decide (16≤k))] 159))):=Lib.hid (hu1.alloc _)
 have HBO:=Lib.hid (kCx hb (.cells #[.int .i64 a,.int .i64 b,.int .i64 c,.bool (decide (16≤k))] 159))
 clear habc _hsb h hs hg hu1 hnm ev hin hb he hf
 go_enter Tryz.func93,Tryz.ntmps93
 go_wp2_with fail
 go_ret
 exact⟨rfl,HU2.out⟩
theorem hasf_calls (op so nn mm:Int) (nms:List (List UInt8)) (l:List Nd) (hin:inN 10000000 (.mk op nms so nn mm l)) (v:Value) (w:World) (P:Nat→Prop) (h:NdV w P (.mk op nms so nn mm l) v) (he:Env w) (hf:FEnv w) (hk0:(0:Int)≤op) (hk1:op≤17) :
  Calls Tryz.prog 93 #[v] w fun e w'=>e=.returned (.bool (!kBq op nms.length l.length&&nms.all kKw&&!kGj op so nn mm))∧Upto [] w w':=by
 obtain⟨k,rfl⟩:=Int.eq_ofNat_of_zero_le hk0
 cases hs:kBq (k:Int) nms.length l.length with
 | true =>
  rw [show (!true&&nms.all kKw&&!kGj (k:Int) so nn mm)=false from rfl]
  by_cases s1:nms.length<(hasF (k:Int)).1
  ·exact has_s1 k so nn mm nms l hin v w P h he hf hk0 hk1 hs s1
  by_cases s2:(hasF (k:Int)).2.1<nms.length
  ·exact has_s2 k so nn mm nms l hin v w P h he hf hk0 hk1 hs s1 s2
  refine has_s3 k so nn mm nms l hin v w P h he hf hk0 hk1 hs s1 s2 ?_
  intro s3
  unfold kBq at hs
  simp at hs
  omega
 | false =>
  cases ha:nms.all kKw with
  | false=>exact has_n k so nn mm nms l hin v w P h he hf hk0 hk1 hs ha
  | true =>
   have T:kGj (k:Int) so nn mm=true→(!false&&true&&!kGj (k:Int) so nn mm)=false:=fun h=>by rw [h];rfl
   have G:kGj (k:Int) so nn mm=false→(!false&&true&&!kGj (k:Int) so nn mm)=true:=fun h=>by rw [h];rfl
   by_cases c7:k=7
   ·subst c7
    by_cases t1:so≠0
    ·rw [T (by simp [kGj, *])];exact has_7a so nn mm nms l hin v w P h he hf hk0 hk1 hs ha t1
    obtain rfl:so=0:=Decidable.not_not.1 t1
    by_cases t2:mm≠0
    ·rw [T (by simp [kGj, *])];exact has_7b nn mm nms l hin v w P h he hf hk0 hk1 hs ha t2
    obtain rfl:mm=0:=Decidable.not_not.1 t2
    rw [G (by simp [kGj])];exact has_7g nn nms l hin v w P h he hf hk0 hk1 hs ha
   by_cases c8:k=8
   ·subst c8
    by_cases t1:so≠0
    ·rw [T (by simp [kGj, *])];exact has_8a so nn mm nms l hin v w P h he hf hk0 hk1 hs ha t1
    obtain rfl:so=0:=Decidable.not_not.1 t1
    rw [G (by simp [kGj])];exact has_8g nn mm nms l hin v w P h he hf hk0 hk1 hs ha
   have o7:(k:Int)≠7:=by omega
   have o8:(k:Int)≠8:=by omega
   by_cases c16:k<16
   ·have c16':(k:Int)<16:=by omega
    by_cases t1:so≠0
    ·rw [T (by simp [kGj, *])];exact has_oa k so nn mm nms l hin v w P h he hf hk0 hk1 hs ha o7 o8 c16 t1
    obtain rfl:so=0:=Decidable.not_not.1 t1
    by_cases t2:nn≠0
    ·rw [T (by simp [kGj, *])];exact has_ob k nn mm nms l hin v w P h he hf hk0 hk1 hs ha o7 o8 c16 t2
    obtain rfl:nn=0:=Decidable.not_not.1 t2
    by_cases t3:mm≠0
    ·rw [T (by simp [kGj, *])];exact has_oc k mm nms l hin v w P h he hf hk0 hk1 hs ha o7 o8 c16 t3
    obtain rfl:mm=0:=Decidable.not_not.1 t3
    rw [G (by simp [kGj])];exact has_og k nms l hin v w P h he hf hk0 hk1 hs ha o7 o8 c16
   have c16':¬(k:Int)<16:=by omega
   by_cases t2:nn≠0
   ·rw [T (by simp [kGj, *])];exact has_hb k so nn mm nms l hin v w P h he hf hk0 hk1 hs ha o7 o8 c16 t2
   obtain rfl:nn=0:=Decidable.not_not.1 t2
   by_cases t3:mm≠0
   ·rw [T (by simp [kGj, *])];exact has_hc k so mm nms l hin v w P h he hf hk0 hk1 hs ha o7 o8 c16 t3
   obtain rfl:mm=0:=Decidable.not_not.1 t3
   rw [G (by simp [kGj, *])];exact has_hg k so nms l hin v w P h he hf hk0 hk1 hs ha o7 o8 c16
theorem rg_7a (so nn mm:Int) (a1 a2:Option Addr) (n1 n2 c1 c2:Nat) (w:World) (h:nn<0):Calls Tryz.prog 94 #[.agg #[.int .i64 7,.slice a1 n1 c1,.int .i64 so,.int .i64 nn,.int .i64 mm,.slice a2 n2 c2]] w fun e w'=>e=.returned (.bool false)∧Upto [] w w':=by
 have hu:Upto [] w (w.alloc (.cells #[.int .i64 7,.slice a1 n1 c1,.int .i64 so,.int .i64 nn,.int .i64 mm,.slice a2 n2 c2] 34)):=(Upto.refl [] w).alloc _
 have hb:=kAq w (.cells #[.int .i64 7,.slice a1 n1 c1,.int .i64 so,.int .i64 nn,.int .i64 mm,.slice a2 n2 c2] 34)
 obtain⟨y0,y1,y2,y3,y4,y5⟩:=kAx hb
 have HU:=Lib.hid hu
 clear hb hu
 have q:¬(0:Int)≤nn:=by omega
 go_enter Tryz.func94,Tryz.ntmps94
 go_wp2_with fail
 go_ret
 exact⟨rfl,HU.out⟩
theorem rg_7b (so nn mm:Int) (a1 a2:Option Addr) (n1 n2 c1 c2:Nat) (w:World) (h:(0:Int)≤nn) (h2:7<nn):Calls Tryz.prog 94 #[.agg #[.int .i64 7,.slice a1 n1 c1,.int .i64 so,.int .i64 nn,.int .i64 mm,.slice a2 n2 c2]] w fun e w'=>e=.returned (.bool false)∧Upto [] w w':=by
 have hu:Upto [] w (w.alloc (.cells #[.int .i64 7,.slice a1 n1 c1,.int .i64 so,.int .i64 nn,.int .i64 mm,.slice a2 n2 c2] 34)):=(Upto.refl [] w).alloc _
 have hb:=kAq w (.cells #[.int .i64 7,.slice a1 n1 c1,.int .i64 so,.int .i64 nn,.int .i64 mm,.slice a2 n2 c2] 34)
 obtain⟨y0,y1,y2,y3,y4,y5⟩:=kAx hb
 have HU:=Lib.hid hu
 clear hb hu
 have q:¬nn≤(7:Int):=by omega
 go_enter Tryz.func94,Tryz.ntmps94
 go_wp2_with fail
 go_ret
 exact⟨rfl,HU.out⟩
theorem rg_7g (so nn mm:Int) (a1 a2:Option Addr) (n1 n2 c1 c2:Nat) (w:World) (h:(0:Int)≤nn) (h2:nn≤7):Calls Tryz.prog 94 #[.agg #[.int .i64 7,.slice a1 n1 c1,.int .i64 so,.int .i64 nn,.int .i64 mm,.slice a2 n2 c2]] w fun e w'=>e=.returned (.bool true)∧Upto [] w w':=by
 have hu:Upto [] w (w.alloc (.cells #[.int .i64 7,.slice a1 n1 c1,.int .i64 so,.int .i64 nn,.int .i64 mm,.slice a2 n2 c2] 34)):=(Upto.refl [] w).alloc _
 have hb:=kAq w (.cells #[.int .i64 7,.slice a1 n1 c1,.int .i64 so,.int .i64 nn,.int .i64 mm,.slice a2 n2 c2] 34)
 obtain⟨y0,y1,y2,y3,y4,y5⟩:=kAx hb
 have HU:=Lib.hid hu
 clear hb hu
 go_enter Tryz.func94,Tryz.ntmps94
 go_wp2_with fail
 go_ret
 exact⟨rfl,HU.out⟩
theorem rg_8a (so nn mm:Int) (a1 a2:Option Addr) (n1 n2 c1 c2:Nat) (w:World) (h:mm<1):Calls Tryz.prog 94 #[.agg #[.int .i64 8,.slice a1 n1 c1,.int .i64 so,.int .i64 nn,.int .i64 mm,.slice a2 n2 c2]] w fun e w'=>e=.returned (.bool false)∧Upto [] w w':=by
 have hu:Upto [] w (w.alloc (.cells #[.int .i64 8,.slice a1 n1 c1,.int .i64 so,.int .i64 nn,.int .i64 mm,.slice a2 n2 c2] 34)):=(Upto.refl [] w).alloc _
 have hb:=kAq w (.cells #[.int .i64 8,.slice a1 n1 c1,.int .i64 so,.int .i64 nn,.int .i64 mm,.slice a2 n2 c2] 34)
 obtain⟨y0,y1,y2,y3,y4,y5⟩:=kAx hb
 have HU:=Lib.hid hu
 clear hb hu
 have q:¬(1:Int)≤mm:=by omega
 go_enter Tryz.func94,Tryz.ntmps94
 go_wp2_with fail
 go_ret
 exact⟨rfl,HU.out⟩
theorem rg_8b (so nn mm:Int) (a1 a2:Option Addr) (n1 n2 c1 c2:Nat) (w:World) (h:(1:Int)≤mm) (h2:64<mm):Calls Tryz.prog 94 #[.agg #[.int .i64 8,.slice a1 n1 c1,.int .i64 so,.int .i64 nn,.int .i64 mm,.slice a2 n2 c2]] w fun e w'=>e=.returned (.bool false)∧Upto [] w w':=by
 have hu:Upto [] w (w.alloc (.cells #[.int .i64 8,.slice a1 n1 c1,.int .i64 so,.int .i64 nn,.int .i64 mm,.slice a2 n2 c2] 34)):=(Upto.refl [] w).alloc _
 have hb:=kAq w (.cells #[.int .i64 8,.slice a1 n1 c1,.int .i64 so,.int .i64 nn,.int .i64 mm,.slice a2 n2 c2] 34)
 obtain⟨y0,y1,y2,y3,y4,y5⟩:=kAx hb
 have HU:=Lib.hid hu
 clear hb hu
 have q:¬mm≤(64:Int):=by omega
 go_enter Tryz.func94,Tryz.ntmps94
 go_wp2_with fail
 go_ret
 exact⟨rfl,HU.out⟩
theorem rg_8c (so nn mm:Int) (a1 a2:Option Addr) (n1 n2 c1 c2:Nat) (w:World) (h:(1:Int)≤mm) (h2:mm≤64) (h3:nn<0):Calls Tryz.prog 94 #[.agg #[.int .i64 8,.slice a1 n1 c1,.int .i64 so,.int .i64 nn,.int .i64 mm,.slice a2 n2 c2]] w fun e w'=>e=.returned (.bool false)∧Upto [] w w':=by
 have hu:Upto [] w (w.alloc (.cells #[.int .i64 8,.slice a1 n1 c1,.int .i64 so,.int .i64 nn,.int .i64 mm,.slice a2 n2 c2] 34)):=(Upto.refl [] w).alloc _
 have hb:=kAq w (.cells #[.int .i64 8,.slice a1 n1 c1,.int .i64 so,.int .i64 nn,.int .i64 mm,.slice a2 n2 c2] 34)
 obtain⟨y0,y1,y2,y3,y4,y5⟩:=kAx hb
 have HU:=Lib.hid hu
 clear hb hu
 have q:¬(0:Int)≤nn:=by omega
 go_enter Tryz.func94,Tryz.ntmps94
 go_wp2_with fail
 go_ret
 exact⟨rfl,HU.out⟩
theorem rg_8d (so nn mm:Int) (a1 a2:Option Addr) (n1 n2 c1 c2:Nat) (w:World) (h:(1:Int)≤mm) (h2:mm≤64) (h3:(0:Int)≤nn) (h4:mm≤nn):Calls Tryz.prog 94 #[.agg #[.int .i64 8,.slice a1 n1 c1,.int .i64 so,.int .i64 nn,.int .i64 mm,.slice a2 n2 c2]] w fun e w'=>e=.returned (.bool false)∧Upto [] w w':=by
 have hu:Upto [] w (w.alloc (.cells #[.int .i64 8,.slice a1 n1 c1,.int .i64 so,.int .i64 nn,.int .i64 mm,.slice a2 n2 c2] 34)):=(Upto.refl [] w).alloc _
 have hb:=kAq w (.cells #[.int .i64 8,.slice a1 n1 c1,.int .i64 so,.int .i64 nn,.int .i64 mm,.slice a2 n2 c2] 34)
 obtain⟨y0,y1,y2,y3,y4,y5⟩:=kAx hb
 have HU:=Lib.hid hu
 clear hb hu
 have q:¬nn<mm:=by omega
 go_enter Tryz.func94,Tryz.ntmps94
 go_wp2_with fail
 go_ret
 exact⟨rfl,HU.out⟩
theorem rg_8g (so nn mm:Int) (a1 a2:Option Addr) (n1 n2 c1 c2:Nat) (w:World) (h:(1:Int)≤mm) (h2:mm≤64) (h3:(0:Int)≤nn) (h4:nn<mm):Calls Tryz.prog 94 #[.agg #[.int .i64 8,.slice a1 n1 c1,.int .i64 so,.int .i64 nn,.int .i64 mm,.slice a2 n2 c2]] w fun e w'=>e=.returned (.bool true)∧Upto [] w w':=by
 have hu:Upto [] w (w.alloc (.cells #[.int .i64 8,.slice a1 n1 c1,.int .i64 so,.int .i64 nn,.int .i64 mm,.slice a2 n2 c2] 34)):=(Upto.refl [] w).alloc _
 have hb:=kAq w (.cells #[.int .i64 8,.slice a1 n1 c1,.int .i64 so,.int .i64 nn,.int .i64 mm,.slice a2 n2 c2] 34)
 obtain⟨y0,y1,y2,y3,y4,y5⟩:=kAx hb
 have HU:=Lib.hid hu
 clear hb hu
 go_enter Tryz.func94,Tryz.ntmps94
 go_wp2_with fail
 go_ret
 exact⟨rfl,HU.out⟩
theorem rg_oa (op so nn mm:Int) (a1 a2:Option Addr) (n1 n2 c1 c2:Nat) (w:World) (o7:op≠7) (o8:op≠8) (h:so<0):Calls Tryz.prog 94 #[.agg #[.int .i64 op,.slice a1 n1 c1,.int .i64 so,.int .i64 nn,.int .i64 mm,.slice a2 n2 c2]] w fun e w'=>e=.returned (.bool false)∧Upto [] w w':=by
 have hu:Upto [] w (w.alloc (.cells #[.int .i64 op,.slice a1 n1 c1,.int .i64 so,.int .i64 nn,.int .i64 mm,.slice a2 n2 c2] 34)):=(Upto.refl [] w).alloc _
 have hb:=kAq w (.cells #[.int .i64 op,.slice a1 n1 c1,.int .i64 so,.int .i64 nn,.int .i64 mm,.slice a2 n2 c2] 34)
 obtain⟨y0,y1,y2,y3,y4,y5⟩:=kAx hb
 have HU:=Lib.hid hu
 clear hb hu
 have e7:(op==(7:Int))=false:=by rw [beq_eq_false_iff_ne];exact o7
 have e8:(op==(8:Int))=false:=by rw [beq_eq_false_iff_ne];exact o8
 have q:¬(0:Int)≤so:=by omega
 go_enter Tryz.func94,Tryz.ntmps94
 go_wp2_with fail
 go_ret
 exact⟨rfl,HU.out⟩
theorem rg_ob (op so nn mm:Int) (a1 a2:Option Addr) (n1 n2 c1 c2:Nat) (w:World) (o7:op≠7) (o8:op≠8) (h:(0:Int)≤so) (h2:3<so):Calls Tryz.prog 94 #[.agg #[.int .i64 op,.slice a1 n1 c1,.int .i64 so,.int .i64 nn,.int .i64 mm,.slice a2 n2 c2]] w fun e w'=>e=.returned (.bool false)∧Upto [] w w':=by
 have hu:Upto [] w (w.alloc (.cells #[.int .i64 op,.slice a1 n1 c1,.int .i64 so,.int .i64 nn,.int .i64 mm,.slice a2 n2 c2] 34)):=(Upto.refl [] w).alloc _
 have hb:=kAq w (.cells #[.int .i64 op,.slice a1 n1 c1,.int .i64 so,.int .i64 nn,.int .i64 mm,.slice a2 n2 c2] 34)
 obtain⟨y0,y1,y2,y3,y4,y5⟩:=kAx hb
 have HU:=Lib.hid hu
 clear hb hu
 have e7:(op==(7:Int))=false:=by rw [beq_eq_false_iff_ne];exact o7
 have e8:(op==(8:Int))=false:=by rw [beq_eq_false_iff_ne];exact o8
 have q:¬so<(4:Int):=by omega
 go_enter Tryz.func94,Tryz.ntmps94
 go_wp2_with fail
 go_ret
 exact⟨rfl,HU.out⟩
theorem rg_og (op so nn mm:Int) (a1 a2:Option Addr) (n1 n2 c1 c2:Nat) (w:World) (o7:op≠7) (o8:op≠8) (h:(0:Int)≤so) (h2:so<4):Calls Tryz.prog 94 #[.agg #[.int .i64 op,.slice a1 n1 c1,.int .i64 so,.int .i64 nn,.int .i64 mm,.slice a2 n2 c2]] w fun e w'=>e=.returned (.bool true)∧Upto [] w w':=by
 have hu:Upto [] w (w.alloc (.cells #[.int .i64 op,.slice a1 n1 c1,.int .i64 so,.int .i64 nn,.int .i64 mm,.slice a2 n2 c2] 34)):=(Upto.refl [] w).alloc _
 have hb:=kAq w (.cells #[.int .i64 op,.slice a1 n1 c1,.int .i64 so,.int .i64 nn,.int .i64 mm,.slice a2 n2 c2] 34)
 obtain⟨y0,y1,y2,y3,y4,y5⟩:=kAx hb
 have HU:=Lib.hid hu
 clear hb hu
 have e7:(op==(7:Int))=false:=by rw [beq_eq_false_iff_ne];exact o7
 have e8:(op==(8:Int))=false:=by rw [beq_eq_false_iff_ne];exact o8
 go_enter Tryz.func94,Tryz.ntmps94
 go_wp2_with fail
 go_ret
 exact⟨rfl,HU.out⟩
theorem ranges_calls (op so nn mm:Int) (nms:List (List UInt8)) (l:List Nd) (v:Value) (w:World) (P:Nat→Prop) (h:NdV w P (.mk op nms so nn mm l) v) (hz:kGj op so nn mm=false) :
  Calls Tryz.prog 94 #[v] w fun e w'=>e=.returned (.bool (!kGw op so nn mm))∧Upto [] w w':=by
 obtain⟨a1,c1,a2,c2,rfl,-,-⟩:=h.open
 have T:kGw op so nn mm=true→(!kGw op so nn mm)=false:=fun h=>by rw [h];rfl
 have G:kGw op so nn mm=false→(!kGw op so nn mm)=true:=fun h=>by rw [h];rfl
 by_cases c7:op=7
 ·subst c7
  have hso:so=0:=by
   unfold kGj at hz
   simp at hz
   exact hz.2
  by_cases t1:nn<0
  ·rw [T (by simp [kGw, *])];exact rg_7a so nn mm a1 a2 _ _ c1 c2 w t1
  by_cases t2:7<nn
  ·rw [T (by simp [kGw, *])];exact rg_7b so nn mm a1 a2 _ _ c1 c2 w (by omega) t2
  rw [G (by simp [kGw];omega)];exact rg_7g so nn mm a1 a2 _ _ c1 c2 w (by omega) (by omega)
 by_cases c8:op=8
 ·subst c8
  have hso:so=0:=by
   unfold kGj at hz
   simp at hz
   exact hz
  by_cases t1:mm<1
  ·rw [T (by simp [kGw, *])];exact rg_8a so nn mm a1 a2 _ _ c1 c2 w t1
  by_cases t2:64<mm
  ·rw [T (by simp [kGw, *])];exact rg_8b so nn mm a1 a2 _ _ c1 c2 w (by omega) t2
  by_cases t3:nn<0
  ·rw [T (by simp [kGw, *])];exact rg_8c so nn mm a1 a2 _ _ c1 c2 w (by omega) (by omega) t3
  by_cases t4:mm≤nn
  ·rw [T (by simp [kGw, *])];exact rg_8d so nn mm a1 a2 _ _ c1 c2 w (by omega) (by omega) (by omega) t4
  rw [G (by simp [kGw];omega)];exact rg_8g so nn mm a1 a2 _ _ c1 c2 w (by omega) (by omega) (by omega) (by omega)
 by_cases t1:so<0
 ·rw [T (by simp [kGw, *])];exact rg_oa op so nn mm a1 a2 _ _ c1 c2 w c7 c8 t1
 by_cases t2:3<so
 ·rw [T (by simp [kGw, *])];exact rg_ob op so nn mm a1 a2 _ _ c1 c2 w c7 c8 (by omega) t2
 rw [G (by simp [kGw,c7,c8];omega)];exact rg_og op so nn mm a1 a2 _ _ c1 c2 w c7 c8 (by omega) (by omega)
theorem kKj (op:Int) (w:World):Calls Tryz.prog 88 #[.int .i64 op] w fun e w'=>e=.returned (.tuple #[.int .i64 ((hasF op).1:Nat),.int .i64 ((hasF op).2.1:Nat),.int .i64 ((hasF op).2.2:Nat)])∧Upto [] w w':=by
 by_cases g0:op<2
 ·have HE:Hid (hasF op=(0,0,0)):=Lib.hid (by unfold hasF;rw [if_pos g0])
  rw [HE.out]
  go_enter Tryz.func88,Tryz.ntmps88
  go_wp2
  exact bodyPost_ret (v:=.tuple #[.int .i64 0,.int .i64 0,.int .i64 0]) (by simp [results,Tryz.results88,go_sem]) rfl ⟨rfl,Upto.refl _ _⟩
 by_cases g1:op<7
 ·have HE:Hid (hasF op=(2,2,0)):=Lib.hid (by unfold hasF;rw [if_neg g0,if_pos g1])
  rw [HE.out]
  go_enter Tryz.func88,Tryz.ntmps88
  go_wp2
  exact bodyPost_ret (v:=.tuple #[.int .i64 2,.int .i64 2,.int .i64 0]) (by simp [results,Tryz.results88,go_sem]) rfl ⟨rfl,Upto.refl _ _⟩
 by_cases g2:op<10
 ·have HE:Hid (hasF op=(1,1,0)):=Lib.hid (by unfold hasF;rw [if_neg g0,if_neg g1,if_pos g2])
  rw [HE.out]
  go_enter Tryz.func88,Tryz.ntmps88
  go_wp2
  exact bodyPost_ret (v:=.tuple #[.int .i64 1,.int .i64 1,.int .i64 0]) (by simp [results,Tryz.results88,go_sem]) rfl ⟨rfl,Upto.refl _ _⟩
 by_cases g3:op=10
 ·have HE:Hid (hasF op=(1,17,0)):=Lib.hid (by unfold hasF;rw [if_neg g0,if_neg g1,if_neg g2,if_pos g3])
  have q3:(op==10)=true:=by rw [beq_iff_eq];exact g3
  rw [HE.out]
  go_enter Tryz.func88,Tryz.ntmps88
  go_wp2
  exact bodyPost_ret (v:=.tuple #[.int .i64 1,.int .i64 17,.int .i64 0]) (by simp [results,Tryz.results88,go_sem]) rfl ⟨rfl,Upto.refl _ _⟩
 have q3:(op==10)=false:=by rw [beq_eq_false_iff_ne];exact g3
 by_cases g4:op=11
 ·have HE:Hid (hasF op=(0,0,1)):=Lib.hid (by unfold hasF;rw [if_neg g0,if_neg g1,if_neg g2,if_neg g3,if_pos g4])
  have q4:(op==11)=true:=by rw [beq_iff_eq];exact g4
  rw [HE.out]
  go_enter Tryz.func88,Tryz.ntmps88
  go_wp2
  exact bodyPost_ret (v:=.tuple #[.int .i64 0,.int .i64 0,.int .i64 1]) (by simp [results,Tryz.results88,go_sem]) rfl ⟨rfl,Upto.refl _ _⟩
 have q4:(op==11)=false:=by rw [beq_eq_false_iff_ne];exact g4
 by_cases g5:op<16
 ·have HE:Hid (hasF op=(0,0,2)):=Lib.hid (by unfold hasF;rw [if_neg g0,if_neg g1,if_neg g2,if_neg g3,if_neg g4,if_pos g5])
  rw [HE.out]
  go_enter Tryz.func88,Tryz.ntmps88
  go_wp2
  exact bodyPost_ret (v:=.tuple #[.int .i64 0,.int .i64 0,.int .i64 2]) (by simp [results,Tryz.results88,go_sem]) rfl ⟨rfl,Upto.refl _ _⟩
 have HE:Hid (hasF op=(1,1,1)):=Lib.hid (by unfold hasF;rw [if_neg g0,if_neg g1,if_neg g2,if_neg g3,if_neg g4,if_neg g5])
 rw [HE.out]
 go_enter Tryz.func88,Tryz.ntmps88
 go_wp2
 exact bodyPost_ret (v:=.tuple #[.int .i64 1,.int .i64 1,.int .i64 1]) (by simp [results,Tryz.results88,go_sem]) rfl ⟨rfl,Upto.refl _ _⟩
theorem greatR_calls (nd:Nd) (v:Value) (w:World) (P:Nat→Prop) (h:NdV w P nd v) (hk:kCz nd≤10000000):Calls Tryz.prog 54 #[v] w fun e w'=>e=.returned (.int .i64 (kIz nd:Nat))∧Upto [] w w':=by
 obtain⟨xo,xn1,xn2,xn3,xs,xm,xq,xl1,xl2,xl3,rfl⟩:=h.six
 have hua:Upto [] w (w.alloc (.cells #[.int .i64 xo,.slice xn1 xn2 xn3,.int .i64 xs,.int .i64 xm,.int .i64 xq,.slice xl1 xl2 xl3] 25)):=(Upto.refl [] w).alloc _
 have HS:=Lib.hid (fun u (hu:Upto [] w u)=>count_calls _ nd hk (Nat.le_refl _) _ u P (h.ext hu))
 have HD:=Lib.hid (fun u (hu:Upto [] w u)=>deep_calls _ nd hk (Nat.le_refl _) _ u P (h.ext hu))
 have HUA:=Lib.hid hua
 have HNB:=Lib.hid (kAq w (.cells #[.int .i64 xo,.slice xn1 xn2 xn3,.int .i64 xs,.int .i64 xm,.int .i64 xq,.slice xl1 xl2 xl3] 25))
 have hd:=kQj nd
 clear h hua
 by_cases h1:4096<kCz nd
 ·have hI:(4096:Int)<kCz nd:=by omega
  have HF:Hid (kIz nd=8):=Lib.hid (by unfold kIz;rw [if_pos h1])
  rw [HF.out]
  go_enter Tryz.func54,Tryz.ntmps54
  go_wp2_with fail
  refine (HS.out _ HUA.out).mono ?_
  rintro e w5 ⟨rfl,hu5⟩
  have HU5:=Lib.hid (HUA.out.trans_ext hu5)
  clear hu5
  go_wp2_with fail
  go_ret
  exact⟨rfl,HU5.out⟩
 have hI:¬(4096:Int)<kCz nd:=by omega
 by_cases h2:256<kNw nd
 ·have hJ:(256:Int)<kNw nd:=by omega
  have HF:Hid (kIz nd=16):=Lib.hid (by unfold kIz;rw [if_neg h1,if_pos h2])
  rw [HF.out]
  go_enter Tryz.func54,Tryz.ntmps54
  go_wp2_with fail
  refine (HS.out _ HUA.out).mono ?_
  rintro e w5 ⟨rfl,hu5⟩
  have HU5:=Lib.hid (HUA.out.trans_ext hu5)
  have hb5:=hu5.at HNB.out (by simp)
  obtain⟨y0,y1,y2,y3,y4,y5⟩:=kAx hb5
  clear hu5 hb5
  go_wp2_with fail
  refine (HD.out _ HU5.out).mono ?_
  rintro e w6 ⟨rfl,hu6⟩
  have HU6:=Lib.hid (HU5.out.trans_ext hu6)
  clear hu6
  go_wp2_with fail
  go_ret
  exact⟨rfl,HU6.out⟩
 have hJ:¬(256:Int)<kNw nd:=by omega
 have HF:Hid (kIz nd=0):=Lib.hid (by unfold kIz;rw [if_neg h1,if_neg h2])
 rw [HF.out]
 go_enter Tryz.func54,Tryz.ntmps54
 go_wp2_with fail
 refine (HS.out _ HUA.out).mono ?_
 rintro e w5 ⟨rfl,hu5⟩
 have HU5:=Lib.hid (HUA.out.trans_ext hu5)
 have hb5:=hu5.at HNB.out (by simp)
 obtain⟨y0,y1,y2,y3,y4,y5⟩:=kAx hb5
 clear hu5 hb5
 go_wp2_with fail
 refine (HD.out _ HU5.out).mono ?_
 rintro e w6 ⟨rfl,hu6⟩
 have HU6:=Lib.hid (HU5.out.trans_ext hu6)
 clear hu6
 go_wp2_with fail
 go_ret
 exact⟨rfl,HU6.out⟩
theorem insN_mem {M:Nat}:∀{l:List Nd} {x:Nd},insN M l→x∈l→inN M x
 | a::l,x,h,hx=>by
  unfold insN at h
  rcases List.mem_cons.1 hx with rfl | hx
  ·exact h.1
  ·exact insN_mem h.2 hx
theorem form_bad (k:Nat) (op so nn mm:Int) (nms:List (List UInt8)) (l:List Nd) (hk:kCz (.mk op nms so nn mm l)≤k+1) (hin:inN 10000000 (.mk op nms so nn mm l)) (_hk7:k+1≤10000000) (v:Value) (w:World) (P:Nat→Prop) (h:NdV w P (.mk op nms so nn mm l) v) (hbad:kSw op=true∨kBq op nms.length l.length=true∨nms.all kBj=false):Calls Tryz.prog 53 #[v] w fun e w'=>e=.returned (.int .i64 (kKk kBj (.mk op nms so nn mm l):Nat))∧Upto [] w w':=by
 obtain⟨a1,c1,a2,c2,rfl,hs,hg⟩:=h.open
 unfold inN at hin
 have HG:=Lib.hid hg
 obtain⟨a1',c1',ev,hnm⟩:=hs.get
 obtain⟨rfl,rfl⟩:a1=a1'∧c1=c1':=by simpa using ev
 have HN:Hid (∀i x,nms[i]?=some x→∃g o,a1=some ⟨g,o,none⟩∧w.cell? ⟨g,o+i,none⟩=some (.string ⟨x.toArray⟩)):=Lib.hid (fun i x hi=>hnm i _ (by rw [List.getElem?_map,hi];rfl))
 have hsz:kBk l≤k:=by simp only [kCz] at hk;omega
 have HSZ:=Lib.hid hsz
 have HIN:=Lib.hid hin
 have hu1:Upto [] w (w.alloc (.cells #[.int .i64 op,.slice a1 nms.length c1,.int .i64 so,.int .i64 nn,.int .i64 mm,.slice a2 l.length c2] 25)):=(Upto.refl [] w).alloc _
 have HB1:=Lib.hid (kAq w (.cells #[.int .i64 op,.slice a1 nms.length c1,.int .i64 so,.int .i64 nn,.int .i64 mm,.slice a2 l.length c2] 25))
 have HU1:=Lib.hid hu1
 have hll:=hin.2.2.1
 have hnl:=hin.1
 have hL0:(0:Int)≤l.length:=by omega
 have hL1:(l.length:Int)≤10000000:=by omega
 have hN0:(0:Int)≤nms.length:=by omega
 have hN1:(nms.length:Int)≤10000000:=by omega
 clear h hs hg hsz hk hu1 hnm ev hin
 by_cases hk0:op<0
 ·have HF:Hid (kKk kBj (.mk op nms so nn mm l)=11):=Lib.hid (by unfold kKk kSw;rw [if_pos (by simp [hk0])])
  rw [HF.out]
  go_enter Tryz.func53,Tryz.ntmps53
  go_wp2_with fail
  go_ret
  exact⟨rfl,HU1.out⟩
 by_cases hk1:17<op
 ·have HF:Hid (kKk kBj (.mk op nms so nn mm l)=11):=Lib.hid (by unfold kKk kSw;rw [if_pos (by simp [hk1])])
  rw [HF.out]
  go_enter Tryz.func53,Tryz.ntmps53
  go_wp2_with fail
  go_ret
  exact⟨rfl,HU1.out⟩
 have HKB:Hid (kSw op=false):=Lib.hid (by unfold kSw;simp;omega)
 have HH:=Lib.hid (kKj op)
 have HHL:Hid (∃a b c:Nat,hasF op=(a,b,c)∧a≤17∧b≤17∧c≤17):=Lib.hid (by
  unfold hasF
  repeat' split
  all_goals exact⟨_,_,_,rfl,by decide,by decide,by decide⟩)
 obtain⟨a,b,c,habc,ha17,hb17,hc17⟩:=HHL.out
 rw [habc] at HH
 simp only at HH
 have ha0:(0:Int)≤a:=by omega
 have hb0:(0:Int)≤b:=by omega
 have hc0:(0:Int)≤c:=by omega
 have ha1:(a:Int)≤17:=by omega
 have hb1:(b:Int)≤17:=by omega
 have hc1:(c:Int)≤17:=by omega
 have HABC:=Lib.hid habc
 clear habc HHL
 by_cases hs0:nms.length<a
 ·have HF:Hid (kKk kBj (.mk op nms so nn mm l)=3):=Lib.hid (by unfold kKk kBq;rw [if_neg (by rw [HKB.out];decide),HABC.out,if_pos (by simp;omega)])
  have q0:(nms.length:Int)<a:=by omega
  rw [HF.out]
  clear hs0
  go_enter Tryz.func53,Tryz.ntmps53
  go_wp2_with fail
  refine (HH.out (w.alloc (.cells #[.int .i64 op,.slice a1 nms.length c1,.int .i64 so,.int .i64 nn,.int .i64 mm,.slice a2 l.length c2] 25))).mono ?_
  rintro e w3 ⟨rfl,hu3⟩
  have HU3:=Lib.hid (HU1.out.trans_ext hu3)
  have hb3:=hu3.at HB1.out (by simp)
  have HB3:=Lib.hid hb3
  obtain⟨y0,y1,y2,y3,y4,y5⟩:=kAx hb3
  clear hu3 hb3
  go_wp2_with fail
  go_ret
  exact⟨rfl,HU3.out⟩
 have q0:¬(nms.length:Int)<a:=by omega
 by_cases hs1:b<nms.length
 ·have HF:Hid (kKk kBj (.mk op nms so nn mm l)=3):=Lib.hid (by unfold kKk kBq;rw [if_neg (by rw [HKB.out];decide),HABC.out,if_pos (by simp;omega)])
  have q1:(b:Int)<nms.length:=by omega
  rw [HF.out]
  clear hs1
  go_enter Tryz.func53,Tryz.ntmps53
  go_wp2_with fail
  refine (HH.out (w.alloc (.cells #[.int .i64 op,.slice a1 nms.length c1,.int .i64 so,.int .i64 nn,.int .i64 mm,.slice a2 l.length c2] 25))).mono ?_
  rintro e w3 ⟨rfl,hu3⟩
  have HU3:=Lib.hid (HU1.out.trans_ext hu3)
  have hb3:=hu3.at HB1.out (by simp)
  have HB3:=Lib.hid hb3
  obtain⟨y0,y1,y2,y3,y4,y5⟩:=kAx hb3
  clear hu3 hb3
  go_wp2_with fail
  go_ret
  exact⟨rfl,HU3.out⟩
 have q1:¬(b:Int)<nms.length:=by omega
 by_cases hs2:l.length≠c
 ·have HF:Hid (kKk kBj (.mk op nms so nn mm l)=3):=Lib.hid (by unfold kKk kBq;rw [if_neg (by rw [HKB.out];decide),HABC.out,if_pos (by simp [hs2])])
  have q2:((l.length:Int)==(c:Int))=false:=by rw [beq_eq_false_iff_ne];omega
  have q2b:((l.length:Int) != (c:Int))=true:=by rw [bne,q2];rfl
  rw [HF.out]
  clear hs2
  go_enter Tryz.func53,Tryz.ntmps53
  go_wp2_with fail
  refine (HH.out (w.alloc (.cells #[.int .i64 op,.slice a1 nms.length c1,.int .i64 so,.int .i64 nn,.int .i64 mm,.slice a2 l.length c2] 25))).mono ?_
  rintro e w3 ⟨rfl,hu3⟩
  have HU3:=Lib.hid (HU1.out.trans_ext hu3)
  have hb3:=hu3.at HB1.out (by simp)
  have HB3:=Lib.hid hb3
  obtain⟨y0,y1,y2,y3,y4,y5⟩:=kAx hb3
  clear hu3 hb3
  go_wp2_with fail
  go_ret
  exact⟨rfl,HU3.out⟩
 have hs2:=Decidable.not_not.1 hs2
 have q2:((l.length:Int) != (c:Int))=false:=by rw [hs2];simp
 have HSB:Hid (kBq op nms.length l.length=false):=Lib.hid (by unfold kBq;rw [HABC.out];simp;omega)
 clear hs2
 go_enter Tryz.func53,Tryz.ntmps53
 go_wp2_with fail
 refine (HH.out (w.alloc (.cells #[.int .i64 op,.slice a1 nms.length c1,.int .i64 so,.int .i64 nn,.int .i64 mm,.slice a2 l.length c2] 25))).mono ?_
 rintro e w3 ⟨rfl,hu3⟩
 have HU3:=Lib.hid (HU1.out.trans_ext hu3)
 have hb3:=hu3.at HB1.out (by simp)
 have HB3:=Lib.hid hb3
 obtain⟨y0,y1,y2,y3,y4,y5⟩:=kAx hb3
 clear hu3 hb3
 go_wp2_with fail
 go_loopw [6] (fun i wr=>∃j:Nat,j≤nms.length∧i=.int .i64 j∧Hid (∀q x,q<j→nms[q]?=some x→kBj x=true)∧Hid (Upto [] w3 wr)) (fun i _=>nms.length-(intOf i).toNat)
 case atStart=>exact⟨0,by omega,rfl,Lib.hid (fun q x hq=>by omega),Lib.hid (Upto.refl _ _)⟩
 case round =>
  clear y0 y1 y2 y3 y4 y5
  obtain⟨j,hj,rfl,HA,HU⟩:=hrel
  have hj0:(0:Int)≤j:=by omega
  have hb:=HU.out.at HB3.out (by simp)
  have HB:=Lib.hid hb
  obtain⟨y0,y1,y2,y3,y4,y5⟩:=kAx hb
  have HW:=Lib.hid (HU3.out.trans_ext HU.out)
  rcases Nat.lt_or_ge j nms.length with hlt | hge
  ·have hltI:(j:Int)<nms.length:=by omega
   obtain⟨x,hx⟩:∃x,nms[j]?=some x:=⟨_,List.getElem?_eq_getElem hlt⟩
   have hxl:=HIN.out.2.1 x (List.mem_of_getElem? hx)
   obtain⟨g,o,rfl,c0⟩:=HN.out j x hx
   replace c0:=kAw HW.out c0
   have HC:=Lib.hid (kGz x wr (by omega))
   have hbb:kBj x=true∨kBj x=false:=by cases kBj x<;>simp
   rcases hbb with hb2 | hb2
   ·have HA2:Hid (∀q x,q<j+1→nms[q]?=some x→kBj x=true):=Lib.hid (fun q y hq hy=>by
     by_cases hqj:q=j
     ·subst hqj
      rw [hx] at hy
      cases hy
      exact hb2
     ·exact HA.out q y (by omega) hy)
    rw [hb2] at HC
    clear hx hb hb2
    go_wp2_with fail
    refine HC.out.mono ?_
    rintro e w5 ⟨rfl,hu5⟩
    have HU5:=Lib.hid (HU.out.trans_ext hu5)
    clear hu5
    go_wp2_with fail
    go_roundw
    case rel=>first | exact⟨j+1,by omega,by go_num,HA2,HU5⟩ | exact⟨_,_,_,_,_,_,_,_,_,_,_,_,_,_,_,_,⟨j+1,by omega,by go_num,HA2,HU5⟩,rfl⟩
    case measure=>simp [intOf];omega
   ·have HF:Hid (kKk kBj (.mk op nms so nn mm l)=3):=Lib.hid (by
     unfold kKk
     rw [if_neg (by rw [HKB.out];decide),if_neg (by rw [HSB.out];decide),if_pos]
     rw [Bool.eq_false_iff]
     intro h
     have:=List.all_eq_true.1 h x (List.mem_of_getElem? hx)
     rw [hb2] at this
     cases this)
    rw [hb2] at HC
    clear hx hb hb2
    go_wp2_with fail
    refine HC.out.mono ?_
    rintro e w5 ⟨rfl,hu5⟩
    have HU5:=Lib.hid (HW.out.trans_ext hu5)
    clear hu5
    go_wp2_with fail
    go_ret
    rw [HF.out]
    exact⟨rfl,HU5.out⟩
  ·have hgeI:¬(j:Int)<nms.length:=by omega
   have HALL:Hid (¬nms.all kBj=false):=Lib.hid (by
    rw [Bool.not_eq_false,List.all_eq_true]
    intro x hx
    obtain⟨q,hq,rfl⟩:=List.mem_iff_getElem.1 hx
    exact HA.out q _ (by omega) (List.getElem?_eq_getElem hq))
   exfalso
   rcases hbad with hx | hx | hx
   ·rw [HKB.out] at hx;cases hx
   ·rw [HSB.out] at hx;cases hx
   ·exact HALL.out hx
theorem ident_all (s:List UInt8):kKw s=kBj s:=by
 by_cases h:s.length≤65536
 ·exact ident_name h
 ·have h1:kKw s=false:=by
   unfold kKw
   cases ho:oneF s with
   | none=>rfl
   | some kv =>
    obtain⟨k,v⟩:=kv
    exact absurd (oneF_real.1 ho).1 h
  have h2:kBj s=false:=by
   rw [Bool.eq_false_iff]
   intro hn
   simp only [kBj,Bool.and_eq_true,decide_eq_true_eq] at hn
   obtain⟨⟨n1,-⟩,n3⟩:=hn
   cases s with
   | nil=>exact n1 rfl
   | cons b t =>
    cases hc:kEw (b::t) with
    | error e=>rw [hc] at n3;cases n3
    | ok p =>
     rw [hc] at n3
     simp only [kEw] at hc
     split at hc
     ·split at hc
      ·cases hc
      ·split at hc
       ·cases hc
       ·cases hc;simp at n3
     ·split at hc
      ·cases hc
      ·split at hc
       ·cases hc;simp at n3
       ·split at hc
        ·cases hc
        ·omega
  rw [h1,h2]
theorem nodes_calls:∀(k:Nat) (nd:Nd),kCz nd≤k→inN 10000000 nd→k≤10000000→∀(v:Value) (w:World) (P:Nat→Prop),NdV w P nd v→Env w→FEnv w→Calls Tryz.prog 63 #[v] w fun e w'=>e=.returned (.int .i64 (kKk kBj nd:Nat))∧Upto [] w w'
 | 0,nd,hk,_,_,_,_,_,_,_,_=>by have:=kJx nd;omega
 | k+1,.mk op nms so nn mm l,hk,hin,hk7,v,w,P,h,he,hf=>by
  have hin0:=hin
  obtain⟨a1,c1,a2,c2,rfl,-,hg⟩:=h.open
  unfold inN at hin
  have HG:=Lib.hid hg
  have hsz:kBk l≤k:=by simp only [kCz] at hk;omega
  have HSZ:=Lib.hid hsz
  have HIN:=Lib.hid hin
  have HE:=Lib.hid (And.intro he hf)
  have hu1:Upto [] w (w.alloc (.cells #[.int .i64 op,.slice a1 nms.length c1,.int .i64 so,.int .i64 nn,.int .i64 mm,.slice a2 l.length c2] 34)):=(Upto.refl [] w).alloc _
  have HB1:=Lib.hid (kAq w (.cells #[.int .i64 op,.slice a1 nms.length c1,.int .i64 so,.int .i64 nn,.int .i64 mm,.slice a2 l.length c2] 34))
  have HU1:=Lib.hid hu1
  have hll:=hin.2.2.1
  have hL0:(0:Int)≤l.length:=by omega
  have hL1:(l.length:Int)≤10000000:=by omega
  have HID:Hid (nms.all kKw=nms.all kBj):=Lib.hid (by rw [show kKw=kBj from funext ident_all])
  by_cases hk0:op<0
  ·have HF:Hid (kKk kBj (.mk op nms so nn mm l)=11):=Lib.hid (by unfold kKk kSw;rw [if_pos (by simp [hk0])])
   rw [HF.out]
   clear h hg hsz hk hu1 hin hin0 he hf
   go_enter Tryz.func63,Tryz.ntmps63
   go_wp2_with fail
   go_ret
   exact⟨rfl,HU1.out⟩
  by_cases hk1:17<op
  ·have HF:Hid (kKk kBj (.mk op nms so nn mm l)=11):=Lib.hid (by unfold kKk kSw;rw [if_pos (by simp [hk1])])
   have hq:(18:Int)≤op:=by omega
   rw [HF.out]
   clear h hg hsz hk hu1 hin hin0 he hf
   go_enter Tryz.func63,Tryz.ntmps63
   go_wp2_with fail
   go_ret
   exact⟨rfl,HU1.out⟩
  have hq:¬(18:Int)≤op:=by omega
  have HKB:Hid (kSw op=false):=Lib.hid (by unfold kSw;simp;omega)
  have HH:=Lib.hid (fun u (hu:Upto [] w u)=>hasf_calls op so nn mm nms l hin0 _ u P (h.ext hu) (he.ext hu) (hf.ext hu) (by omega) (by omega))
  by_cases hh:(!kBq op nms.length l.length&&nms.all kKw&&!kGj op so nn mm)=false
  ·have HF:Hid (kKk kBj (.mk op nms so nn mm l)=3):=Lib.hid (by
    unfold kKk
    rw [if_neg (by rw [HKB.out];decide)]
    rw [HID.out] at hh
    cases e1:kBq op nms.length l.length with
    | true=>rw [if_pos rfl]
    | false =>
     rw [if_neg (by decide)]
     cases e2:nms.all kBj with
     | false=>rw [if_pos rfl]
     | true =>
      rw [if_neg (by decide)]
      cases e3:kGj op so nn mm with
      | true=>rw [if_pos rfl]
      | false=>rw [e1,e2,e3] at hh;cases hh)
   rw [HF.out]
   rw [hh] at HH
   have hb:=kAq w (.cells #[.int .i64 op,.slice a1 nms.length c1,.int .i64 so,.int .i64 nn,.int .i64 mm,.slice a2 l.length c2] 34)
   obtain⟨y0,y1,y2,y3,y4,y5⟩:=kAx hb
   clear h hg hsz hk hu1 hin hin0 he hf hh hb
   go_enter Tryz.func63,Tryz.ntmps63
   go_wp2_with fail
   refine (HH.out _ HU1.out).mono ?_
   rintro e w5 ⟨rfl,hu5⟩
   have HU5:=Lib.hid (HU1.out.trans_ext hu5)
   clear hu5
   go_wp2_with fail
   go_ret
   exact⟨rfl,HU5.out⟩
  have hh:=(Bool.not_eq_false _).mp hh
  obtain⟨hs1,hs2,hs3⟩:kBq op nms.length l.length=false∧nms.all kBj=true∧kGj op so nn mm=false:=by
   have h2:=hh
   rw [HID.out] at h2
   simp only [Bool.and_eq_true,Bool.not_eq_true'] at h2
   exact⟨h2.1.1,h2.1.2,h2.2⟩
  rw [hh] at HH
  have HT:Hid (∀n:Nat,(if kGw op so nn mm then 2 else kHx kBj l)=n→kKk kBj (.mk op nms so nn mm l)=n):=Lib.hid (fun n hn=>by
   unfold kKk
   rw [if_neg (by rw [HKB.out];decide),if_neg (by rw [hs1];decide),if_neg (by rw [hs2];decide),if_neg (by rw [hs3];decide)]
   exact hn)
  have HR:=Lib.hid (fun u (hu:Upto [] w u)=>ranges_calls op so nn mm nms l _ u P (h.ext hu) hs3)
  have IH:Hid (∀(nd:Nd),kCz nd≤k→inN 10000000 nd→∀(v:Value) (u:World) (P:Nat→Prop),Upto [] w u→NdV u P nd v→Calls Tryz.prog 63 #[v] u fun e w'=>e=.returned (.int .i64 (kKk kBj nd:Nat))∧Upto [] u w'):=Lib.hid (fun nd h1 h2 v u P hu hn=>nodes_calls k nd h1 h2 (by omega) v u P hn (he.ext hu) (hf.ext hu))
  clear hh hs1 hs2 hs3
  have hb:=kAq w (.cells #[.int .i64 op,.slice a1 nms.length c1,.int .i64 so,.int .i64 nn,.int .i64 mm,.slice a2 l.length c2] 34)
  obtain⟨y0,y1,y2,y3,y4,y5⟩:=kAx hb
  cases hr:kGw op so nn mm with
  | true =>
   rw [HT.out 2 (by rw [hr];rfl)]
   rw [hr] at HR
   clear h hg hsz hk hu1 hin hin0 he hf hb
   go_enter Tryz.func63,Tryz.ntmps63
   go_wp2_with fail
   refine (HH.out _ HU1.out).mono ?_
   rintro e w5 ⟨rfl,hu5⟩
   have HU5:=Lib.hid (HU1.out.trans_ext hu5)
   have hb5:=hu5.at HB1.out (by simp)
   obtain⟨z0,z1,z2,z3,z4,z5⟩:=kAx hb5
   clear hu5 hb5 y0 y1 y2 y3 y4 y5
   go_wp2_with fail
   refine (HR.out _ HU5.out).mono ?_
   rintro e w6 ⟨rfl,hu6⟩
   have HU6:=Lib.hid (HU5.out.trans_ext hu6)
   clear hu6
   go_wp2_with fail
   go_ret
   exact⟨rfl,HU6.out⟩
  | false =>
   rw [HT.out _ (by rw [hr])]
   rw [hr] at HR
   clear h hg hsz hk hu1 hin hin0 he hf hb HT
   go_enter Tryz.func63,Tryz.ntmps63
   go_wp2_with fail
   refine (HH.out _ HU1.out).mono ?_
   rintro e w5 ⟨rfl,hu5⟩
   have HU5:=Lib.hid (HU1.out.trans_ext hu5)
   have hb5:=hu5.at HB1.out (by simp)
   have HB5:=Lib.hid hb5
   obtain⟨z0,z1,z2,z3,z4,z5⟩:=kAx hb5
   clear hu5 hb5 y0 y1 y2 y3 y4 y5
   go_wp2_with fail
   refine (HR.out _ HU5.out).mono ?_
   rintro e w6 ⟨rfl,hu6⟩
   have HU6:=Lib.hid (HU5.out.trans_ext hu6)
   have hb6:=hu6.at HB5.out (by simp)
   clear z0 z1 z2 z3 z4 z5
   have z5:=kAz hb6 5
   simp only [List.getElem?_toArray,List.getElem?_cons_zero,List.getElem?_cons_succ] at z5
   have HB6:=Lib.hid (hu6.at HB5.out (by simp))
   clear hu6 hb6
   go_wp2_with fail
   go_loopw [26] (fun i wr=>∃m:Nat,m≤l.length∧i=.int .i64 m∧Hid (kHx kBj (l.drop m)=kHx kBj l)∧Hid (Upto [] w6 wr)) (fun i _=>l.length-(intOf i).toNat)
   case atStart=>exact⟨0,by omega,rfl,Lib.hid rfl,Lib.hid (Upto.refl _ _)⟩
   case round =>
    obtain⟨m,hm,rfl,HB9,HV⟩:=hrel
    have hm0:(0:Int)≤m:=by omega
    have HW2:=Lib.hid (HU6.out.trans_ext HV.out)
    rcases Nat.lt_or_ge m l.length with hlt | hge2
    ·have hltI:(m:Int)<l.length:=by omega
     obtain⟨x,hx⟩:∃x,l[m]?=some x:=⟨_,List.getElem?_eq_getElem hlt⟩
     have HDR:Hid (l.drop m=x::l.drop (m+1)):=Lib.hid (by
      obtain⟨hi,h3⟩:=List.getElem?_eq_some_iff.1 hx
      rw [List.drop_eq_getElem_cons hi,h3])
     obtain⟨g,o,xo,xn1,xn2,xn3,xs,xm,xq,xl1,xl2,xl3,rfl,d0,d1,d2,d3,d4,d5,hnx⟩:=HG.out m x hx
     replace d0:=kAw HW2.out d0
     replace d1:=kAw HW2.out d1
     replace d2:=kAw HW2.out d2
     replace d3:=kAw HW2.out d3
     replace d4:=kAw HW2.out d4
     replace d5:=kAw HW2.out d5
     have hxa:Upto [] wr (wr.alloc (.cells #[.int .i64 xo,.slice xn1 xn2 xn3,.int .i64 xs,.int .i64 xm,.int .i64 xq,.slice xl1 xl2 xl3] 34)):=(Upto.refl [] wr).alloc _
     have HXA:=Lib.hid (HW2.out.trans_ext hxa)
     have HXV:=Lib.hid (HV.out.trans_ext hxa)
     have hn:=kAq wr (.cells #[.int .i64 xo,.slice xn1 xn2 xn3,.int .i64 xs,.int .i64 xm,.int .i64 xq,.slice xl1 xl2 xl3] 34)
     obtain⟨n0,n1,n2,n3,n4,n5⟩:=kAx hn
     have HC:=Lib.hid (IH.out x (by have:=HSZ.out;have:=kSx (List.mem_of_getElem? hx);omega) (insN_mem HIN.out.2.2.2 (List.mem_of_getElem? hx)) _ (wr.alloc (.cells #[.int .i64 xo,.slice xn1 xn2 xn3,.int .i64 xs,.int .i64 xm,.int .i64 xq,.slice xl1 xl2 xl3] 34)) P HXA.out (hnx.ext HXA.out))
     by_cases hz:kKk kBj x=0
     ·have HA2:Hid (kHx kBj (l.drop (m+1))=kHx kBj l):=Lib.hid (by
       rw [←HB9.out,HDR.out]
       conv=>rhs;unfold kHx
       rw [hz]
       rfl)
      rw [hz] at HC
      clear hx hz hnx hxa hn
      go_wp2_with fail
      refine HC.out.mono ?_
      rintro e w7 ⟨rfl,hu7⟩
      have HU7:=Lib.hid (HXV.out.trans_ext hu7)
      clear hu7
      go_wp2_with fail
      go_roundw
      case rel=>exact⟨m+1,by omega,by go_num,HA2,HU7⟩
      case measure=>simp [intOf];omega
     ·have HF:Hid (kHx kBj l=kKk kBj x):=Lib.hid (by
       rw [←HB9.out,HDR.out]
       unfold kHx
       rw [if_pos hz])
      generalize hfx:kKk kBj x=fx at *
      have ez:((fx:Int)==0)=false:=by rw [beq_eq_false_iff_ne];omega
      have ez2:((fx:Int) != 0)=true:=by rw [bne,ez];rfl
      clear hx hz hnx hfx hxa hn
      go_wp2_with fail
      refine HC.out.mono ?_
      rintro e w7 ⟨rfl,hu7⟩
      have HU7:=Lib.hid (HXA.out.trans_ext hu7)
      clear hu7
      go_wp2_with fail
      go_ret
      rw [HF.out]
      exact⟨rfl,HU7.out⟩
    ·have hgeJ:¬(m:Int)<l.length:=by omega
     have HF:Hid (kHx kBj l=0):=Lib.hid (by
      rw [←HB9.out,List.drop_of_length_le (by omega)]
      rfl)
     go_wp2_with fail
     go_ret
     rw [HF.out]
     exact⟨rfl,HW2.out⟩
theorem checkf_calls (nd:Nd) (v:Value) (w:World) (P:Nat→Prop) (h:NdV w P nd v) (hk:kCz nd≤10000000) (hin:inN 10000000 nd) (he:Env w) (hf:FEnv w):Calls Tryz.prog 31 #[v] w fun e w'=>e=.returned (.int .i64 (kSq kBj nd:Nat))∧Upto [] w w':=by
 obtain⟨xo,xn1,xn2,xn3,xs,xm,xq,xl1,xl2,xl3,rfl⟩:=h.six
 have hua:Upto [] w (w.alloc (.cells #[.int .i64 xo,.slice xn1 xn2 xn3,.int .i64 xs,.int .i64 xm,.int .i64 xq,.slice xl1 xl2 xl3] 34)):=(Upto.refl [] w).alloc _
 have HS:=Lib.hid (fun u (hu:Upto [] w u)=>nodes_calls _ nd (Nat.le_refl _) hin hk _ u P (h.ext hu) (he.ext hu) (hf.ext hu))
 have HD:=Lib.hid (fun u (hu:Upto [] w u)=>great_calls nd _ u P (h.ext hu) hk)
 have HUA:=Lib.hid hua
 have HNB:=Lib.hid (kAq w (.cells #[.int .i64 xo,.slice xn1 xn2 xn3,.int .i64 xs,.int .i64 xm,.int .i64 xq,.slice xl1 xl2 xl3] 34))
 clear h hua hin he hf
 by_cases h1:kKk kBj nd=0
 ·have HF:Hid (kSq kBj nd=kIz nd):=Lib.hid (by unfold kSq;rw [h1];rfl)
  rw [HF.out]
  rw [h1] at HS
  clear h1
  go_enter Tryz.func31,Tryz.ntmps31
  go_wp2_with fail
  refine (HS.out _ HUA.out).mono ?_
  rintro e w5 ⟨rfl,hu5⟩
  have HU5:=Lib.hid (HUA.out.trans_ext hu5)
  have hb5:=hu5.at HNB.out (by simp)
  obtain⟨y0,y1,y2,y3,y4,y5⟩:=kAx hb5
  clear hu5 hb5
  go_wp2_with fail
  refine (HD.out _ HU5.out).mono ?_
  rintro e w6 ⟨rfl,hu6⟩
  have HU6:=Lib.hid (HU5.out.trans_ext hu6)
  clear hu6
  go_wp2_with fail
  go_ret
  exact⟨rfl,HU6.out⟩
 ·have HF:Hid (kSq kBj nd=kKk kBj nd):=Lib.hid (by unfold kSq;rw [if_pos h1])
  rw [HF.out]
  generalize hfx:kKk kBj nd=fx at *
  have ez:((fx:Int)==0)=false:=by rw [beq_eq_false_iff_ne];omega
  have ez2:((fx:Int) != 0)=true:=by rw [bne,ez];rfl
  clear hfx h1
  go_enter Tryz.func31,Tryz.ntmps31
  go_wp2_with fail
  refine (HS.out _ HUA.out).mono ?_
  rintro e w5 ⟨rfl,hu5⟩
  have HU5:=Lib.hid (HUA.out.trans_ext hu5)
  clear hu5
  go_wp2_with fail
  go_ret
  exact⟨rfl,HU5.out⟩
theorem seen_look {w:World} {b:Nat} {L:List (List UInt8)} (hm:MapL Tryz.prog 9 w b (L.map kwE)) (x:List UInt8) (hl:x.length≤9223372036854775807):(Instr.lookup 96 (.map (some b)) (.string ⟨x.toArray⟩) false).run Tryz.prog w=.ok (.bool (L.contains x)) w:=by
 rcases hm.look lawS Tryz.underlying96 (zeroB w) (kVj hl) false with⟨h1,h2⟩ | ⟨u,h1,h2⟩
 ·have:L.contains x=false:=by
   cases hc:L.contains x with
   | false=>rfl
   | true=>exact absurd rfl (h2 (kwE x) (List.mem_map.2 ⟨x,by simpa using hc,rfl⟩))
  rw [this]
  exact h1
 ·obtain⟨y,hy,hq⟩:=List.mem_map.1 h1
  have hq1:sb y=sb x:=congrArg Prod.fst hq
  have hq2:Value.bool true=u:=congrArg Prod.snd hq
  have hyx:=kWx hq1
  subst hyx
  have:L.contains y=true:=by simpa using hy
  rw [this,hq2]
  exact h2
theorem seen_new {L:List (List UInt8)} {x:List UInt8} (h:L.contains x=false):∀p∈L.map kwE,p.1≠sb x:=by
 intro p hp e
 obtain⟨y,hy,rfl⟩:=List.mem_map.1 hp
 have hyx:y=x:=kWx e
 subst hyx
 rw [List.contains_iff_mem.2 hy] at h
 cases h
theorem sortW_nil {s:Int}:kOj s=[]↔s<0∨3<s:=by
 unfold kOj
 split;simp;omega
 split;simp;omega
 split;simp;omega
 split;simp;omega
 simp;omega
theorem checkq_calls (q:Qn) (v:Value) (w:World) (P:Nat→Prop) (h:QnV w P q v) (hk:kCz q.body≤10000000) (hin:inN 10000000 q.body) (hfn:∀y∈q.free,y.1.length≤10000000) (hE:Env w∧SEnv w∧FEnv w):Calls Tryz.prog 34 #[v] w fun e w'=>e=.returned (.int .i64 (kIj kBj q:Nat))∧Upto [] w w':=by
 obtain⟨he,hse,hfe⟩:=hE
 obtain⟨f1,f3,o1,a1,a2,a3,s1,n1,m1,l1,l2,l3,rfl,hv,hn⟩:=h.open
 have hu1:Upto [] w (w.alloc (.cells #[.slice f1 q.free.length f3,.int .i64 o1,.slice a1 a2 a3,.int .i64 s1,.int .i64 n1,.int .i64 m1,.slice l1 l2 l3] 48)):=(Upto.refl [] w).alloc _
 have HU1:=Lib.hid hu1
 by_cases h8:8<q.free.length
 ·have h8I:(8:Int)<q.free.length:=by omega
  have HF:Hid (kIj kBj q=8):=Lib.hid (by unfold kIj;rw [if_pos h8])
  rw [HF.out]
  clear h hv hn hk hin hfn hu1 he hse hfe
  go_enter Tryz.func34,Tryz.ntmps34
  go_wp2_with fail
  go_ret
  exact⟨rfl,HU1.out⟩
 have h8I:¬(8:Int)<q.free.length:=by omega
 have H8:=Lib.hid h8
 have HG:=Lib.hid (kWj hv)
 have HFN:=Lib.hid hfn
 have HCK:=Lib.hid (fun u (hu:Upto [] w u)=>checkf_calls q.body _ u P (hn.ext hu) hk hin (he.ext hu) (hfe.ext hu))
 have HID:=Lib.hid (fun (x:List UInt8) (hx:x.length≤281474976710656) u (hu:Upto [] w u)=>isIdent_calls x u (he.ext hu) hx)
 have HSN:=Lib.hid (fun (s:Int) u (hu:Upto [] w u)=>sname_calls s u (hse.upto hu (by simp)))
 have hL0:(0:Int)≤q.free.length:=by omega
 have hL1:(q.free.length:Int)≤8:=by omega
 have hm0:=MapL.made Tryz.prog 9 (w.alloc (.cells #[.slice f1 q.free.length f3,.int .i64 o1,.slice a1 a2 a3,.int .i64 s1,.int .i64 n1,.int .i64 m1,.slice l1 l2 l3] 48))
 have hsz:(w.alloc (.cells #[.slice f1 q.free.length f3,.int .i64 o1,.slice a1 a2 a3,.int .i64 s1,.int .i64 n1,.int .i64 m1,.slice l1 l2 l3] 48)).heap.size=w.heap.size+1:=by simp
 rw [hsz] at hm0
 have HM0:=Lib.hid hm0
 have hu2:Upto [] w ((w.alloc (.cells #[.slice f1 q.free.length f3,.int .i64 o1,.slice a1 a2 a3,.int .i64 s1,.int .i64 n1,.int .i64 m1,.slice l1 l2 l3] 48)).alloc (.map #[] 0)):=hu1.alloc _
 have HU2:=Lib.hid hu2
 have HB1:=Lib.hid (kCx (kAq w (.cells #[.slice f1 q.free.length f3,.int .i64 o1,.slice a1 a2 a3,.int .i64 s1,.int .i64 n1,.int .i64 m1,.slice l1 l2 l3] 48)) (.map #[] 0))
 have hmm:=@run_makeMap Tryz.prog
 clear h hv hn hk hin hfn hu1 hu2 h8 hm0 hsz he hse hfe
 go_enter Tryz.func34,Tryz.ntmps34
 go_wp2_with fail
 generalize hW2:((w.alloc (.cells #[.slice f1 q.free.length f3,.int .i64 o1,.slice a1 a2 a3,.int .i64 s1,.int .i64 n1,.int .i64 m1,.slice l1 l2 l3] 48)).alloc (.map #[] 0))=W2 at *
 obtain⟨bm,hbm,HBM⟩:∃bm,bm=w.heap.size+1∧Hid (bm=w.heap.size+1):=⟨_,rfl,Lib.hid rfl⟩
 rw [←hbm] at HM0 ⊢
 have HBW:Hid (w.heap.size<W2.heap.size):=Lib.hid (by rw [←hW2];simp;omega)
 clear hW2 hbm hmm
 go_loopw [14] (fun i wr=>∃j:Nat,j≤q.free.length∧i=.int .i64 j∧Hid (kYk kBj (q.free.drop j) ((q.free.take j).map Prod.fst)=kYk kBj q.free [])∧Hid (MapL Tryz.prog 9 wr bm (((q.free.take j).map Prod.fst).map kwE))∧Hid (Upto [bm] W2 wr)) (fun i _=>q.free.length-(intOf i).toNat)
 case atStart=>exact⟨0,by omega,rfl,Lib.hid (by simp),HM0,Lib.hid (Upto.refl _ _)⟩
 case round =>
  obtain⟨j,hj,rfl,HE,HM,HU⟩:=hrel
  have hj0:(0:Int)≤j:=by omega
  have hb:=HU.out.at HB1.out (by have:=HBM.out;simp;omega)
  obtain⟨y0,y1,y2,y3,y4,y5,y6⟩:=kBw hb
  have HW:Hid (Upto [] w wr):=Lib.hid (HU2.out.trans HU.out (fun k hk=>by have:=HBM.out;simp at hk;subst hk;right;omega))
  rcases Nat.lt_or_ge j q.free.length with hlt | hge
  ·have hltI:(j:Int)<q.free.length:=by omega
   obtain⟨x,hx⟩:∃x,q.free[j]?=some x:=⟨_,List.getElem?_eq_getElem hlt⟩
   have HDR:Hid (q.free.drop j=x::q.free.drop (j+1)):=Lib.hid (by
    obtain⟨hi,h3⟩:=List.getElem?_eq_some_iff.1 hx
    rw [List.drop_eq_getElem_cons hi,h3])
   have HTK:Hid ((q.free.take (j+1)).map Prod.fst=(q.free.take j).map Prod.fst++[x.1]):=Lib.hid (by
    rw [List.take_add_one,hx]
    simp)
   have hnl:=HFN.out x (List.mem_of_getElem? hx)
   obtain⟨g,o,rfl,c0,c1⟩:=HG.out j x hx
   replace c0:=kAw HW.out c0
   replace c1:=kAw HW.out c1
   obtain⟨x1,x2⟩:=x
   simp only at c0 c1 hnl HTK
   have hxa:Upto [] wr (wr.alloc (.cells #[.string ⟨x1.toArray⟩,.int .i64 x2] 86)):=(Upto.refl [] wr).alloc _
   have HXV:=Lib.hid (HU.out.trans_same (hxa.mono (by simp)))
   have HXA:=Lib.hid (HW.out.trans_ext hxa)
   have HXM:=Lib.hid (HM.out.upto hxa (by simp))
   have hn:=kAq wr (.cells #[.string ⟨x1.toArray⟩,.int .i64 x2] 86)
   have HN:=Lib.hid hn
   obtain⟨n0,n1⟩:=kKx hn
   have HC:=Lib.hid (HID.out x1 (by omega) _ HXA.out)
   rw [ident_all] at HC
   have hbb:kBj x1=true∨kBj x1=false:=by cases kBj x1<;>simp
   rcases hbb with hb2 | hb2
   case inr =>
    have HF:Hid (kIj kBj q=3):=Lib.hid (right_vars H8.out (by decide) (by rw [←HE.out,HDR.out];unfold kYk;rw [if_pos hb2]))
    rw [hb2] at HC
    clear hx hb hb2 hxa hn hnl
    go_wp2_with fail
    refine HC.out.mono ?_
    rintro e w5 ⟨rfl,hu5⟩
    have HU5:=Lib.hid (HXA.out.trans_ext hu5)
    clear hu5
    go_wp2_with fail
    go_ret
    rw [HF.out]
    exact⟨rfl,HU5.out⟩
   case inl =>
    have hKx:x1.length≤9223372036854775807:=by omega
    by_cases hs:(decide (x2<0)||decide (3<x2))=true
    ·have HF:Hid (kIj kBj q=2):=Lib.hid (right_vars H8.out (by decide) (by rw [←HE.out,HDR.out];unfold kYk;rw [if_neg (by rw [hb2];decide),if_pos hs]))
     rw [hb2] at HC
     have HSW:Hid (kOj x2=[]):=Lib.hid (sortW_nil.2 (by simpa using hs))
     clear hx hb hb2 hxa hn hnl hs hKx
     go_wp2_with fail
     refine HC.out.mono ?_
     rintro e w5 ⟨rfl,hu5⟩
     have HU5:=Lib.hid (HXA.out.trans_ext hu5)
     have HS:=Lib.hid (HSN.out x2 _ HU5.out)
     rw [HSW.out] at HS
     have hb5:=hu5.at HN.out (by simp)
     obtain⟨z0,z1⟩:=kKx hb5
     clear hu5 hb5 z0
     go_wp2_with fail
     refine HS.out.mono ?_
     rintro e w6 ⟨rfl,hu6⟩
     have HU6:=Lib.hid (HU5.out.trans_ext hu6)
     clear hu6
     go_wp2_with fail
     go_ret
     rw [HF.out]
     exact⟨rfl,HU6.out⟩
    have HS9:=Lib.hid hs
    have HSW:Hid (kOj x2≠[]):=Lib.hid (fun e=>hs (by have:=sortW_nil.1 e;simpa using this))
    have HNM:=Lib.hid hb2
    rw [hb2] at HC
    obtain⟨SW,hSW⟩:∃SW,SW=kOj x2:=⟨_,rfl⟩
    have hsw0:SW≠[]:=by rw [hSW];exact HSW.out
    have HSV:Hid (kOj x2=SW):=Lib.hid hSW.symm
    have e1:(SW==[])=false:=by simpa using hsw0
    have e2:SW.isEmpty=false:=by cases SW with | nil=>exact absurd rfl hsw0 | cons a r=>rfl
    clear hx hb hb2 hxa hn hnl hs hSW hsw0
    go_wp2_with fail
    refine HC.out.mono ?_
    rintro e w5 ⟨rfl,hu5⟩
    have HU5:=Lib.hid (HXA.out.trans_ext hu5)
    have HV5:=Lib.hid (HXV.out.trans_same (hu5.mono (by simp)))
    have HM5:=Lib.hid (HXM.out.upto hu5 (by simp))
    have HS:=Lib.hid (HSN.out x2 _ HU5.out)
    rw [HSV.out] at HS
    have HN5:=Lib.hid (hu5.at HN.out (by simp))
    have hb5:=HN5.out
    obtain⟨z0,z1⟩:=kKx hb5
    clear hu5 hb5
    go_wp2_with fail
    refine HS.out.mono ?_
    rintro e w6 ⟨rfl,hu6⟩
    have HU6:=Lib.hid (HU5.out.trans_ext hu6)
    have HV6:=Lib.hid (HV5.out.trans_same (hu6.mono (by simp)))
    have HM6:=Lib.hid (HM5.out.upto hu6 (by simp))
    have hb6:=hu6.at HN5.out (by simp)
    obtain⟨u0,u1⟩:=kKx hb6
    have hlk:=seen_look HM6.out x1 hKx
    clear hu6 hb6 z0 z1
    have hbb:((q.free.take j).map Prod.fst).contains x1=true∨((q.free.take j).map Prod.fst).contains x1=false:=by cases ((q.free.take j).map Prod.fst).contains x1<;>simp
    rcases hbb with hb2 | hb2
    ·have HF:Hid (kIj kBj q=7):=Lib.hid (right_vars H8.out (by decide) (by
      rw [←HE.out,HDR.out];unfold kYk
      rw [if_neg (by rw [HNM.out];decide),if_neg HS9.out,if_pos hb2]))
     rw [hb2] at hlk
     clear hb2
     go_wp2_with fail
     go_ret
     rw [HF.out]
     exact⟨rfl,HU6.out⟩
    ·have HE2:Hid (kYk kBj (q.free.drop (j+1)) ((q.free.take (j+1)).map Prod.fst)=kYk kBj q.free []):=Lib.hid (by
      rw [HTK.out,←HE.out,HDR.out]
      conv=>rhs;unfold kYk
      rw [if_neg (by rw [HNM.out];decide),if_neg HS9.out,if_neg (by rw [hb2];decide)])
     have HNW:=Lib.hid (seen_new hb2)
     have HKX:=Lib.hid (kVj hKx)
     have HT2:Hid (((q.free.take (j+1)).map Prod.fst).map kwE=((q.free.take j).map Prod.fst).map kwE++[(sb x1,.bool true)]):=Lib.hid (by rw [HTK.out,List.map_append];rfl)
     rw [hb2] at hlk
     clear hb2
     go_wp2_with (refine wpList_insert _ rfl _ _ _ 96 rfl 9 4 lawS Tryz.underlying96 bm _ rfl HM6.out (sb x1) (.bool true) _ rfl rfl HKX.out HNW.out ?_;intro w7 hm7 hg7)
     have HM7:=Lib.hid hm7
     have HV7:=Lib.hid (HV6.out.grown hg7 (fun k hk=>by cases hk;simp))
     clear hm7 hg7 hlk
     go_wp2_with fail
     go_roundw
     case rel=>exact⟨j+1,by omega,by go_num,HE2,by rw [HT2.out];exact HM7,HV7⟩
     case measure=>simp [intOf];omega
  ·have hgeI:¬(j:Int)<q.free.length:=by omega
   have HF:Hid (kIj kBj q=kSq kBj q.body):=Lib.hid (right_body H8.out (by
    rw [←HE.out,List.drop_of_length_le (by omega)]
    rfl))
   have HC:=Lib.hid (HCK.out wr HW.out)
   clear hb
   go_wp2_with fail
   refine HC.out.mono ?_
   rintro e w5 ⟨rfl,hu5⟩
   have HU5:=Lib.hid (HW.out.trans_ext hu5)
   clear hu5
   go_wp2_with fail
   go_ret
   rw [HF.out]
   exact⟨rfl,HU5.out⟩
theorem form_7a (k:Nat) (so nn mm:Int) (nms:List (List UInt8)) (l:List Nd) (hk:kBk l≤k) (hin:inN 10000000 (.mk 7 nms so nn mm l)) (_hk7:k+1≤10000000) (v:Value) (w:World) (P:Nat→Prop) (h:NdV w P (.mk 7 nms so nn mm l) v) (hk0:¬(7:Int)<0) (hk1:¬(17:Int)<7) (hsb:kBq 7 nms.length l.length=false) (hall:nms.all kBj=true) (hz:mm≠0):Calls Tryz.prog 53 #[v] w fun e w'=>e=.returned (.int .i64 ((3:Nat):Int))∧Upto [] w w':=by
 obtain⟨a1,c1,a2,c2,rfl,hs,hg⟩:=h.open
 unfold inN at hin
 have HG:=Lib.hid hg
 obtain⟨a1',c1',ev,hnm⟩:=hs.get
 obtain⟨rfl,rfl⟩:a1=a1'∧c1=c1':=by simpa using ev
 have HN:Hid (∀i x,nms[i]?=some x→∃g o,a1=some ⟨g,o,none⟩∧w.cell? ⟨g,o+i,none⟩=some (.string ⟨x.toArray⟩)):=Lib.hid (fun i x hi=>hnm i _ (by rw [List.getElem?_map,hi];rfl))
 have HSZ:=Lib.hid hk
 have HIN:=Lib.hid hin
 have HAL:=Lib.hid hall
 have hu1:Upto [] w (w.alloc (.cells #[.int .i64 7,.slice a1 nms.length c1,.int .i64 so,.int .i64 nn,.int .i64 mm,.slice a2 l.length c2] 25)):=(Upto.refl [] w).alloc _
 have HB1:=Lib.hid (kAq w (.cells #[.int .i64 7,.slice a1 nms.length c1,.int .i64 so,.int .i64 nn,.int .i64 mm,.slice a2 l.length c2] 25))
 have HU1:=Lib.hid hu1
 have hll:=hin.2.2.1
 have hnl:=hin.1
 have hL0:(0:Int)≤l.length:=by omega
 have hL1:(l.length:Int)≤10000000:=by omega
 have hN0:(0:Int)≤nms.length:=by omega
 have hN1:(nms.length:Int)≤10000000:=by omega
 have HH:=Lib.hid (kKj 7)
 obtain⟨a,b,c,habc,ha17,hb17,hc17⟩:∃a b c:Nat,hasF 7=(a,b,c)∧a≤17∧b≤17∧c≤17:=by
  unfold hasF
  repeat' split
  all_goals exact⟨_,_,_,rfl,by decide,by decide,by decide⟩
 rw [habc] at HH
 simp only at HH
 obtain⟨hs0,hs1,hs2⟩:¬nms.length<a∧¬b<nms.length∧l.length=c:=by
  unfold kBq at hsb
  rw [habc] at hsb
  simp at hsb
  omega
 have ha0:(0:Int)≤a:=by omega
 have hb0:(0:Int)≤b:=by omega
 have hc0:(0:Int)≤c:=by omega
 have ha1:(a:Int)≤17:=by omega
 have hb1:(b:Int)≤17:=by omega
 have hc1:(c:Int)≤17:=by omega
 have q0:¬(nms.length:Int)<a:=by omega
 have q1:¬(b:Int)<nms.length:=by omega
 have q2:((l.length:Int) != (c:Int))=false:=by rw [hs2];simp
 clear habc hsb hall h hs hg hk hu1 hnm ev hin hs2
 go_enter Tryz.func53,Tryz.ntmps53
 go_wp2_with fail
 refine (HH.out (w.alloc (.cells #[.int .i64 7,.slice a1 nms.length c1,.int .i64 so,.int .i64 nn,.int .i64 mm,.slice a2 l.length c2] 25))).mono ?_
 rintro e w3 ⟨rfl,hu3⟩
 have HU3:=Lib.hid (HU1.out.trans_ext hu3)
 have hb3:=hu3.at HB1.out (by simp)
 have HB3:=Lib.hid hb3
 obtain⟨y0,y1,y2,y3,y4,y5⟩:=kAx hb3
 clear hu3 hb3
 go_wp2_with fail
 go_loopw [6] (fun i wr=>∃j:Nat,j≤nms.length∧i=.int .i64 j∧Hid (Upto [] w3 wr)) (fun i _=>nms.length-(intOf i).toNat)
 case atStart=>exact⟨0,by omega,rfl,Lib.hid (Upto.refl _ _)⟩
 case round =>
  clear y0 y1 y2 y3 y4 y5
  obtain⟨j,hj,rfl,HU⟩:=hrel
  have hj0:(0:Int)≤j:=by omega
  have hb:=HU.out.at HB3.out (by simp)
  have HB:=Lib.hid hb
  obtain⟨y0,y1,y2,y3,y4,y5⟩:=kAx hb
  have HW:=Lib.hid (HU3.out.trans_ext HU.out)
  rcases Nat.lt_or_ge j nms.length with hlt | hge
  ·have hltI:(j:Int)<nms.length:=by omega
   obtain⟨x,hx⟩:∃x,nms[j]?=some x:=⟨_,List.getElem?_eq_getElem hlt⟩
   have hxl:=HIN.out.2.1 x (List.mem_of_getElem? hx)
   obtain⟨g,o,rfl,c0⟩:=HN.out j x hx
   replace c0:=kAw HW.out c0
   have HC:=Lib.hid (kGz x wr (by omega))
   have hb2:kBj x=true:=List.all_eq_true.1 HAL.out x (List.mem_of_getElem? hx)
   rw [hb2] at HC
   clear hx hb hb2
   go_wp2_with fail
   refine HC.out.mono ?_
   rintro e w5 ⟨rfl,hu5⟩
   have HU5:=Lib.hid (HU.out.trans_ext hu5)
   clear hu5
   go_wp2_with fail
   go_roundw
   case rel=>first | exact⟨j+1,by omega,by go_num,HU5⟩ | exact⟨_,_,_,_,_,_,_,_,_,_,_,_,_,_,_,_,⟨j+1,by omega,by go_num,HU5⟩,rfl⟩
   case measure=>simp [intOf];omega
  ·have hgeI:¬(j:Int)<nms.length:=by omega
   clear hb q0 q1 q2 hs0 hs1 ha0 hb0 hc0 ha1 hb1 hc1 HH HAL HN
   have emm0:(mm==(0:Int))=false:=by rw [beq_eq_false_iff_ne];exact hz
   have fmm0:(mm != (0:Int))=true:=by rw [bne,emm0];rfl
   go_wp2_with fail
   go_ret
   exact⟨rfl,HW.out⟩
theorem form_7b (k:Nat) (so nn:Int) (nms:List (List UInt8)) (l:List Nd) (hk:kBk l≤k) (hin:inN 10000000 (.mk 7 nms so nn 0 l)) (_hk7:k+1≤10000000) (v:Value) (w:World) (P:Nat→Prop) (h:NdV w P (.mk 7 nms so nn 0 l) v) (hk0:¬(7:Int)<0) (hk1:¬(17:Int)<7) (hsb:kBq 7 nms.length l.length=false) (hall:nms.all kBj=true) (hz:so≠0):Calls Tryz.prog 53 #[v] w fun e w'=>e=.returned (.int .i64 ((3:Nat):Int))∧Upto [] w w':=by
 obtain⟨a1,c1,a2,c2,rfl,hs,hg⟩:=h.open
 unfold inN at hin
 have HG:=Lib.hid hg
 obtain⟨a1',c1',ev,hnm⟩:=hs.get
 obtain⟨rfl,rfl⟩:a1=a1'∧c1=c1':=by simpa using ev
 have HN:Hid (∀i x,nms[i]?=some x→∃g o,a1=some ⟨g,o,none⟩∧w.cell? ⟨g,o+i,none⟩=some (.string ⟨x.toArray⟩)):=Lib.hid (fun i x hi=>hnm i _ (by rw [List.getElem?_map,hi];rfl))
 have HSZ:=Lib.hid hk
 have HIN:=Lib.hid hin
 have HAL:=Lib.hid hall
 have hu1:Upto [] w (w.alloc (.cells #[.int .i64 7,.slice a1 nms.length c1,.int .i64 so,.int .i64 nn,.int .i64 0,.slice a2 l.length c2] 25)):=(Upto.refl [] w).alloc _
 have HB1:=Lib.hid (kAq w (.cells #[.int .i64 7,.slice a1 nms.length c1,.int .i64 so,.int .i64 nn,.int .i64 0,.slice a2 l.length c2] 25))
 have HU1:=Lib.hid hu1
 have hll:=hin.2.2.1
 have hnl:=hin.1
 have hL0:(0:Int)≤l.length:=by omega
 have hL1:(l.length:Int)≤10000000:=by omega
 have hN0:(0:Int)≤nms.length:=by omega
 have hN1:(nms.length:Int)≤10000000:=by omega
 have HH:=Lib.hid (kKj 7)
 obtain⟨a,b,c,habc,ha17,hb17,hc17⟩:∃a b c:Nat,hasF 7=(a,b,c)∧a≤17∧b≤17∧c≤17:=by
  unfold hasF
  repeat' split
  all_goals exact⟨_,_,_,rfl,by decide,by decide,by decide⟩
 rw [habc] at HH
 simp only at HH
 obtain⟨hs0,hs1,hs2⟩:¬nms.length<a∧¬b<nms.length∧l.length=c:=by
  unfold kBq at hsb
  rw [habc] at hsb
  simp at hsb
  omega
 have ha0:(0:Int)≤a:=by omega
 have hb0:(0:Int)≤b:=by omega
 have hc0:(0:Int)≤c:=by omega
 have ha1:(a:Int)≤17:=by omega
 have hb1:(b:Int)≤17:=by omega
 have hc1:(c:Int)≤17:=by omega
 have q0:¬(nms.length:Int)<a:=by omega
 have q1:¬(b:Int)<nms.length:=by omega
 have q2:((l.length:Int) != (c:Int))=false:=by rw [hs2];simp
 clear habc hsb hall h hs hg hk hu1 hnm ev hin hs2
 go_enter Tryz.func53,Tryz.ntmps53
 go_wp2_with fail
 refine (HH.out (w.alloc (.cells #[.int .i64 7,.slice a1 nms.length c1,.int .i64 so,.int .i64 nn,.int .i64 0,.slice a2 l.length c2] 25))).mono ?_
 rintro e w3 ⟨rfl,hu3⟩
 have HU3:=Lib.hid (HU1.out.trans_ext hu3)
 have hb3:=hu3.at HB1.out (by simp)
 have HB3:=Lib.hid hb3
 obtain⟨y0,y1,y2,y3,y4,y5⟩:=kAx hb3
 clear hu3 hb3
 go_wp2_with fail
 go_loopw [6] (fun i wr=>∃j:Nat,j≤nms.length∧i=.int .i64 j∧Hid (Upto [] w3 wr)) (fun i _=>nms.length-(intOf i).toNat)
 case atStart=>exact⟨0,by omega,rfl,Lib.hid (Upto.refl _ _)⟩
 case round =>
  clear y0 y1 y2 y3 y4 y5
  obtain⟨j,hj,rfl,HU⟩:=hrel
  have hj0:(0:Int)≤j:=by omega
  have hb:=HU.out.at HB3.out (by simp)
  have HB:=Lib.hid hb
  obtain⟨y0,y1,y2,y3,y4,y5⟩:=kAx hb
  have HW:=Lib.hid (HU3.out.trans_ext HU.out)
  rcases Nat.lt_or_ge j nms.length with hlt | hge
  ·have hltI:(j:Int)<nms.length:=by omega
   obtain⟨x,hx⟩:∃x,nms[j]?=some x:=⟨_,List.getElem?_eq_getElem hlt⟩
   have hxl:=HIN.out.2.1 x (List.mem_of_getElem? hx)
   obtain⟨g,o,rfl,c0⟩:=HN.out j x hx
   replace c0:=kAw HW.out c0
   have HC:=Lib.hid (kGz x wr (by omega))
   have hb2:kBj x=true:=List.all_eq_true.1 HAL.out x (List.mem_of_getElem? hx)
   rw [hb2] at HC
   clear hx hb hb2
   go_wp2_with fail
   refine HC.out.mono ?_
   rintro e w5 ⟨rfl,hu5⟩
   have HU5:=Lib.hid (HU.out.trans_ext hu5)
   clear hu5
   go_wp2_with fail
   go_roundw
   case rel=>first | exact⟨j+1,by omega,by go_num,HU5⟩ | exact⟨_,_,_,_,_,_,_,_,_,_,_,_,_,_,_,_,⟨j+1,by omega,by go_num,HU5⟩,rfl⟩
   case measure=>simp [intOf];omega
  ·have hgeI:¬(j:Int)<nms.length:=by omega
   clear hb q0 q1 q2 hs0 hs1 ha0 hb0 hc0 ha1 hb1 hc1 HH HAL HN
   have eso0:(so==(0:Int))=false:=by rw [beq_eq_false_iff_ne];exact hz
   have fso0:(so != (0:Int))=true:=by rw [bne,eso0];rfl
   go_wp2_with fail
   go_ret
   exact⟨rfl,HW.out⟩
theorem form_7c (k:Nat) (nn:Int) (nms:List (List UInt8)) (l:List Nd) (hk:kBk l≤k) (hin:inN 10000000 (.mk 7 nms 0 nn 0 l)) (_hk7:k+1≤10000000) (v:Value) (w:World) (P:Nat→Prop) (h:NdV w P (.mk 7 nms 0 nn 0 l) v) (hk0:¬(7:Int)<0) (hk1:¬(17:Int)<7) (hsb:kBq 7 nms.length l.length=false) (hall:nms.all kBj=true) (hz:nn<0):Calls Tryz.prog 53 #[v] w fun e w'=>e=.returned (.int .i64 ((2:Nat):Int))∧Upto [] w w':=by
 obtain⟨a1,c1,a2,c2,rfl,hs,hg⟩:=h.open
 unfold inN at hin
 have HG:=Lib.hid hg
 obtain⟨a1',c1',ev,hnm⟩:=hs.get
 obtain⟨rfl,rfl⟩:a1=a1'∧c1=c1':=by simpa using ev
 have HN:Hid (∀i x,nms[i]?=some x→∃g o,a1=some ⟨g,o,none⟩∧w.cell? ⟨g,o+i,none⟩=some (.string ⟨x.toArray⟩)):=Lib.hid (fun i x hi=>hnm i _ (by rw [List.getElem?_map,hi];rfl))
 have HSZ:=Lib.hid hk
 have HIN:=Lib.hid hin
 have HAL:=Lib.hid hall
 have hu1:Upto [] w (w.alloc (.cells #[.int .i64 7,.slice a1 nms.length c1,.int .i64 0,.int .i64 nn,.int .i64 0,.slice a2 l.length c2] 25)):=(Upto.refl [] w).alloc _
 have HB1:=Lib.hid (kAq w (.cells #[.int .i64 7,.slice a1 nms.length c1,.int .i64 0,.int .i64 nn,.int .i64 0,.slice a2 l.length c2] 25))
 have HU1:=Lib.hid hu1
 have hll:=hin.2.2.1
 have hnl:=hin.1
 have hL0:(0:Int)≤l.length:=by omega
 have hL1:(l.length:Int)≤10000000:=by omega
 have hN0:(0:Int)≤nms.length:=by omega
 have hN1:(nms.length:Int)≤10000000:=by omega
 have HH:=Lib.hid (kKj 7)
 obtain⟨a,b,c,habc,ha17,hb17,hc17⟩:∃a b c:Nat,hasF 7=(a,b,c)∧a≤17∧b≤17∧c≤17:=by
  unfold hasF
  repeat' split
  all_goals exact⟨_,_,_,rfl,by decide,by decide,by decide⟩
 rw [habc] at HH
 simp only at HH
 obtain⟨hs0,hs1,hs2⟩:¬nms.length<a∧¬b<nms.length∧l.length=c:=by
  unfold kBq at hsb
  rw [habc] at hsb
  simp at hsb
  omega
 have ha0:(0:Int)≤a:=by omega
 have hb0:(0:Int)≤b:=by omega
 have hc0:(0:Int)≤c:=by omega
 have ha1:(a:Int)≤17:=by omega
 have hb1:(b:Int)≤17:=by omega
 have hc1:(c:Int)≤17:=by omega
 have q0:¬(nms.length:Int)<a:=by omega
 have q1:¬(b:Int)<nms.length:=by omega
 have q2:((l.length:Int) != (c:Int))=false:=by rw [hs2];simp
 clear habc hsb hall h hs hg hk hu1 hnm ev hin hs2
 go_enter Tryz.func53,Tryz.ntmps53
 go_wp2_with fail
 refine (HH.out (w.alloc (.cells #[.int .i64 7,.slice a1 nms.length c1,.int .i64 0,.int .i64 nn,.int .i64 0,.slice a2 l.length c2] 25))).mono ?_
 rintro e w3 ⟨rfl,hu3⟩
 have HU3:=Lib.hid (HU1.out.trans_ext hu3)
 have hb3:=hu3.at HB1.out (by simp)
 have HB3:=Lib.hid hb3
 obtain⟨y0,y1,y2,y3,y4,y5⟩:=kAx hb3
 clear hu3 hb3
 go_wp2_with fail
 go_loopw [6] (fun i wr=>∃j:Nat,j≤nms.length∧i=.int .i64 j∧Hid (Upto [] w3 wr)) (fun i _=>nms.length-(intOf i).toNat)
 case atStart=>exact⟨0,by omega,rfl,Lib.hid (Upto.refl _ _)⟩
 case round =>
  clear y0 y1 y2 y3 y4 y5
  obtain⟨j,hj,rfl,HU⟩:=hrel
  have hj0:(0:Int)≤j:=by omega
  have hb:=HU.out.at HB3.out (by simp)
  have HB:=Lib.hid hb
  obtain⟨y0,y1,y2,y3,y4,y5⟩:=kAx hb
  have HW:=Lib.hid (HU3.out.trans_ext HU.out)
  rcases Nat.lt_or_ge j nms.length with hlt | hge
  ·have hltI:(j:Int)<nms.length:=by omega
   obtain⟨x,hx⟩:∃x,nms[j]?=some x:=⟨_,List.getElem?_eq_getElem hlt⟩
   have hxl:=HIN.out.2.1 x (List.mem_of_getElem? hx)
   obtain⟨g,o,rfl,c0⟩:=HN.out j x hx
   replace c0:=kAw HW.out c0
   have HC:=Lib.hid (kGz x wr (by omega))
   have hb2:kBj x=true:=List.all_eq_true.1 HAL.out x (List.mem_of_getElem? hx)
   rw [hb2] at HC
   clear hx hb hb2
   go_wp2_with fail
   refine HC.out.mono ?_
   rintro e w5 ⟨rfl,hu5⟩
   have HU5:=Lib.hid (HU.out.trans_ext hu5)
   clear hu5
   go_wp2_with fail
   go_roundw
   case rel=>first | exact⟨j+1,by omega,by go_num,HU5⟩ | exact⟨_,_,_,_,_,_,_,_,_,_,_,_,_,_,_,_,⟨j+1,by omega,by go_num,HU5⟩,rfl⟩
   case measure=>simp [intOf];omega
  ·have hgeI:¬(j:Int)<nms.length:=by omega
   clear hb q0 q1 q2 hs0 hs1 ha0 hb0 hc0 ha1 hb1 hc1 HH HAL HN
   go_wp2_with fail
   go_ret
   exact⟨rfl,HW.out⟩
theorem form_7d (k:Nat) (nn:Int) (nms:List (List UInt8)) (l:List Nd) (hk:kBk l≤k) (hin:inN 10000000 (.mk 7 nms 0 nn 0 l)) (_hk7:k+1≤10000000) (v:Value) (w:World) (P:Nat→Prop) (h:NdV w P (.mk 7 nms 0 nn 0 l) v) (hk0:¬(7:Int)<0) (hk1:¬(17:Int)<7) (hsb:kBq 7 nms.length l.length=false) (hall:nms.all kBj=true) (h1:¬nn<0) (hz:7<nn):Calls Tryz.prog 53 #[v] w fun e w'=>e=.returned (.int .i64 ((2:Nat):Int))∧Upto [] w w':=by
 obtain⟨a1,c1,a2,c2,rfl,hs,hg⟩:=h.open
 unfold inN at hin
 have HG:=Lib.hid hg
 obtain⟨a1',c1',ev,hnm⟩:=hs.get
 obtain⟨rfl,rfl⟩:a1=a1'∧c1=c1':=by simpa using ev
 have HN:Hid (∀i x,nms[i]?=some x→∃g o,a1=some ⟨g,o,none⟩∧w.cell? ⟨g,o+i,none⟩=some (.string ⟨x.toArray⟩)):=Lib.hid (fun i x hi=>hnm i _ (by rw [List.getElem?_map,hi];rfl))
 have HSZ:=Lib.hid hk
 have HIN:=Lib.hid hin
 have HAL:=Lib.hid hall
 have hu1:Upto [] w (w.alloc (.cells #[.int .i64 7,.slice a1 nms.length c1,.int .i64 0,.int .i64 nn,.int .i64 0,.slice a2 l.length c2] 25)):=(Upto.refl [] w).alloc _
 have HB1:=Lib.hid (kAq w (.cells #[.int .i64 7,.slice a1 nms.length c1,.int .i64 0,.int .i64 nn,.int .i64 0,.slice a2 l.length c2] 25))
 have HU1:=Lib.hid hu1
 have hll:=hin.2.2.1
 have hnl:=hin.1
 have hL0:(0:Int)≤l.length:=by omega
 have hL1:(l.length:Int)≤10000000:=by omega
 have hN0:(0:Int)≤nms.length:=by omega
 have hN1:(nms.length:Int)≤10000000:=by omega
 have HH:=Lib.hid (kKj 7)
 obtain⟨a,b,c,habc,ha17,hb17,hc17⟩:∃a b c:Nat,hasF 7=(a,b,c)∧a≤17∧b≤17∧c≤17:=by
  unfold hasF
  repeat' split
  all_goals exact⟨_,_,_,rfl,by decide,by decide,by decide⟩
 rw [habc] at HH
 simp only at HH
 obtain⟨hs0,hs1,hs2⟩:¬nms.length<a∧¬b<nms.length∧l.length=c:=by
  unfold kBq at hsb
  rw [habc] at hsb
  simp at hsb
  omega
 have ha0:(0:Int)≤a:=by omega
 have hb0:(0:Int)≤b:=by omega
 have hc0:(0:Int)≤c:=by omega
 have ha1:(a:Int)≤17:=by omega
 have hb1:(b:Int)≤17:=by omega
 have hc1:(c:Int)≤17:=by omega
 have q0:¬(nms.length:Int)<a:=by omega
 have q1:¬(b:Int)<nms.length:=by omega
 have q2:((l.length:Int) != (c:Int))=false:=by rw [hs2];simp
 clear habc hsb hall h hs hg hk hu1 hnm ev hin hs2
 go_enter Tryz.func53,Tryz.ntmps53
 go_wp2_with fail
 refine (HH.out (w.alloc (.cells #[.int .i64 7,.slice a1 nms.length c1,.int .i64 0,.int .i64 nn,.int .i64 0,.slice a2 l.length c2] 25))).mono ?_
 rintro e w3 ⟨rfl,hu3⟩
 have HU3:=Lib.hid (HU1.out.trans_ext hu3)
 have hb3:=hu3.at HB1.out (by simp)
 have HB3:=Lib.hid hb3
 obtain⟨y0,y1,y2,y3,y4,y5⟩:=kAx hb3
 clear hu3 hb3
 go_wp2_with fail
 go_loopw [6] (fun i wr=>∃j:Nat,j≤nms.length∧i=.int .i64 j∧Hid (Upto [] w3 wr)) (fun i _=>nms.length-(intOf i).toNat)
 case atStart=>exact⟨0,by omega,rfl,Lib.hid (Upto.refl _ _)⟩
 case round =>
  clear y0 y1 y2 y3 y4 y5
  obtain⟨j,hj,rfl,HU⟩:=hrel
  have hj0:(0:Int)≤j:=by omega
  have hb:=HU.out.at HB3.out (by simp)
  have HB:=Lib.hid hb
  obtain⟨y0,y1,y2,y3,y4,y5⟩:=kAx hb
  have HW:=Lib.hid (HU3.out.trans_ext HU.out)
  rcases Nat.lt_or_ge j nms.length with hlt | hge
  ·have hltI:(j:Int)<nms.length:=by omega
   obtain⟨x,hx⟩:∃x,nms[j]?=some x:=⟨_,List.getElem?_eq_getElem hlt⟩
   have hxl:=HIN.out.2.1 x (List.mem_of_getElem? hx)
   obtain⟨g,o,rfl,c0⟩:=HN.out j x hx
   replace c0:=kAw HW.out c0
   have HC:=Lib.hid (kGz x wr (by omega))
   have hb2:kBj x=true:=List.all_eq_true.1 HAL.out x (List.mem_of_getElem? hx)
   rw [hb2] at HC
   clear hx hb hb2
   go_wp2_with fail
   refine HC.out.mono ?_
   rintro e w5 ⟨rfl,hu5⟩
   have HU5:=Lib.hid (HU.out.trans_ext hu5)
   clear hu5
   go_wp2_with fail
   go_roundw
   case rel=>first | exact⟨j+1,by omega,by go_num,HU5⟩ | exact⟨_,_,_,_,_,_,_,_,_,_,_,_,_,_,_,_,⟨j+1,by omega,by go_num,HU5⟩,rfl⟩
   case measure=>simp [intOf];omega
  ·have hgeI:¬(j:Int)<nms.length:=by omega
   clear hb q0 q1 q2 hs0 hs1 ha0 hb0 hc0 ha1 hb1 hc1 HH HAL HN
   go_wp2_with fail
   go_ret
   exact⟨rfl,HW.out⟩
theorem form_7g (k:Nat) (nn:Int) (nms:List (List UInt8)) (l:List Nd) (hk:kBk l≤k) (hin:inN 10000000 (.mk 7 nms 0 nn 0 l)) (_hk7:k+1≤10000000) (v:Value) (w:World) (P:Nat→Prop) (h:NdV w P (.mk 7 nms 0 nn 0 l) v) (hk0:¬(7:Int)<0) (hk1:¬(17:Int)<7) (hsb:kBq 7 nms.length l.length=false) (hall:nms.all kBj=true) (h1:¬nn<0) (h2:¬7<nn) (IH:∀(nd:Nd),kCz nd≤k→inN 10000000 nd→∀(v:Value) (w:World) (P:Nat→Prop),NdV w P nd v→Calls Tryz.prog 53 #[v] w fun e w'=>e=.returned (.int .i64 (kKk kBj nd:Nat))∧Upto [] w w'):Calls Tryz.prog 53 #[v] w fun e w'=>e=.returned (.int .i64 ((kHx kBj l:Nat):Int))∧Upto [] w w':=by
 obtain⟨a1,c1,a2,c2,rfl,hs,hg⟩:=h.open
 unfold inN at hin
 have HG:=Lib.hid hg
 obtain⟨a1',c1',ev,hnm⟩:=hs.get
 obtain⟨rfl,rfl⟩:a1=a1'∧c1=c1':=by simpa using ev
 have HN:Hid (∀i x,nms[i]?=some x→∃g o,a1=some ⟨g,o,none⟩∧w.cell? ⟨g,o+i,none⟩=some (.string ⟨x.toArray⟩)):=Lib.hid (fun i x hi=>hnm i _ (by rw [List.getElem?_map,hi];rfl))
 have HSZ:=Lib.hid hk
 have HIN:=Lib.hid hin
 have HAL:=Lib.hid hall
 have hu1:Upto [] w (w.alloc (.cells #[.int .i64 7,.slice a1 nms.length c1,.int .i64 0,.int .i64 nn,.int .i64 0,.slice a2 l.length c2] 25)):=(Upto.refl [] w).alloc _
 have HB1:=Lib.hid (kAq w (.cells #[.int .i64 7,.slice a1 nms.length c1,.int .i64 0,.int .i64 nn,.int .i64 0,.slice a2 l.length c2] 25))
 have HU1:=Lib.hid hu1
 have hll:=hin.2.2.1
 have hnl:=hin.1
 have hL0:(0:Int)≤l.length:=by omega
 have hL1:(l.length:Int)≤10000000:=by omega
 have hN0:(0:Int)≤nms.length:=by omega
 have hN1:(nms.length:Int)≤10000000:=by omega
 have HH:=Lib.hid (kKj 7)
 obtain⟨a,b,c,habc,ha17,hb17,hc17⟩:∃a b c:Nat,hasF 7=(a,b,c)∧a≤17∧b≤17∧c≤17:=by
  unfold hasF
  repeat' split
  all_goals exact⟨_,_,_,rfl,by decide,by decide,by decide⟩
 rw [habc] at HH
 simp only at HH
 obtain⟨hs0,hs1,hs2⟩:¬nms.length<a∧¬b<nms.length∧l.length=c:=by
  unfold kBq at hsb
  rw [habc] at hsb
  simp at hsb
  omega
 have ha0:(0:Int)≤a:=by omega
 have hb0:(0:Int)≤b:=by omega
 have hc0:(0:Int)≤c:=by omega
 have ha1:(a:Int)≤17:=by omega
 have hb1:(b:Int)≤17:=by omega
 have hc1:(c:Int)≤17:=by omega
 have q0:¬(nms.length:Int)<a:=by omega
 have q1:¬(b:Int)<nms.length:=by omega
 have q2:((l.length:Int) != (c:Int))=false:=by rw [hs2];simp
 clear habc hsb hall h hs hg hk hu1 hnm ev hin hs2
 go_enter Tryz.func53,Tryz.ntmps53
 go_wp2_with fail
 refine (HH.out (w.alloc (.cells #[.int .i64 7,.slice a1 nms.length c1,.int .i64 0,.int .i64 nn,.int .i64 0,.slice a2 l.length c2] 25))).mono ?_
 rintro e w3 ⟨rfl,hu3⟩
 have HU3:=Lib.hid (HU1.out.trans_ext hu3)
 have hb3:=hu3.at HB1.out (by simp)
 have HB3:=Lib.hid hb3
 obtain⟨y0,y1,y2,y3,y4,y5⟩:=kAx hb3
 clear hu3 hb3
 go_wp2_with fail
 go_loopw [6] (fun i wr=>∃j:Nat,j≤nms.length∧i=.int .i64 j∧Hid (Upto [] w3 wr)) (fun i _=>nms.length-(intOf i).toNat)
 case atStart=>exact⟨0,by omega,rfl,Lib.hid (Upto.refl _ _)⟩
 case round =>
  clear y0 y1 y2 y3 y4 y5
  obtain⟨j,hj,rfl,HU⟩:=hrel
  have hj0:(0:Int)≤j:=by omega
  have hb:=HU.out.at HB3.out (by simp)
  have HB:=Lib.hid hb
  obtain⟨y0,y1,y2,y3,y4,y5⟩:=kAx hb
  have HW:=Lib.hid (HU3.out.trans_ext HU.out)
  rcases Nat.lt_or_ge j nms.length with hlt | hge
  ·have hltI:(j:Int)<nms.length:=by omega
   obtain⟨x,hx⟩:∃x,nms[j]?=some x:=⟨_,List.getElem?_eq_getElem hlt⟩
   have hxl:=HIN.out.2.1 x (List.mem_of_getElem? hx)
   obtain⟨g,o,rfl,c0⟩:=HN.out j x hx
   replace c0:=kAw HW.out c0
   have HC:=Lib.hid (kGz x wr (by omega))
   have hb2:kBj x=true:=List.all_eq_true.1 HAL.out x (List.mem_of_getElem? hx)
   rw [hb2] at HC
   clear hx hb hb2
   go_wp2_with fail
   refine HC.out.mono ?_
   rintro e w5 ⟨rfl,hu5⟩
   have HU5:=Lib.hid (HU.out.trans_ext hu5)
   clear hu5
   go_wp2_with fail
   go_roundw
   case rel=>first | exact⟨j+1,by omega,by go_num,HU5⟩ | exact⟨_,_,_,_,_,_,_,_,_,_,_,_,_,_,_,_,⟨j+1,by omega,by go_num,HU5⟩,rfl⟩
   case measure=>simp [intOf];omega
  ·have hgeI:¬(j:Int)<nms.length:=by omega
   clear hb q0 q1 q2 hs0 hs1 ha0 hb0 hc0 ha1 hb1 hc1 HH HAL HN
   go_wp2_with fail
   go_loopw [7] (fun i wx=>∃m:Nat,m≤l.length∧i=.int .i64 m∧Hid (kHx kBj (l.drop m)=kHx kBj l)∧Hid (Upto [] wr wx)) (fun i _=>l.length-(intOf i).toNat)
   case atStart=>exact⟨0,by omega,rfl,Lib.hid rfl,Lib.hid (Upto.refl _ _)⟩
   case round =>
    clear y0 y1 y2 y3 y4 y5
    obtain⟨m,hm,rfl,HB9,HV⟩:=hrel
    have hm0:(0:Int)≤m:=by omega
    have hb:=HV.out.at HB.out (by simp)
    have y5:=kAz hb 5
    simp only [List.getElem?_toArray,List.getElem?_cons_zero,List.getElem?_cons_succ] at y5
    have HW2:=Lib.hid (HW.out.trans_ext HV.out)
    rcases Nat.lt_or_ge m l.length with hlt | hge2
    ·have hltI:(m:Int)<l.length:=by omega
     obtain⟨x,hx⟩:∃x,l[m]?=some x:=⟨_,List.getElem?_eq_getElem hlt⟩
     have HDR:Hid (l.drop m=x::l.drop (m+1)):=Lib.hid (by
      obtain⟨hi,h3⟩:=List.getElem?_eq_some_iff.1 hx
      rw [List.drop_eq_getElem_cons hi,h3])
     obtain⟨g,o,xo,xn1,xn2,xn3,xs,xm,xq,xl1,xl2,xl3,rfl,d0,d1,d2,d3,d4,d5,hnx⟩:=HG.out m x hx
     replace d0:=kAw HW2.out d0
     replace d1:=kAw HW2.out d1
     replace d2:=kAw HW2.out d2
     replace d3:=kAw HW2.out d3
     replace d4:=kAw HW2.out d4
     replace d5:=kAw HW2.out d5
     have HC:=Lib.hid (IH x (by have:=HSZ.out;have:=kSx (List.mem_of_getElem? hx);omega) (insN_mem HIN.out.2.2.2 (List.mem_of_getElem? hx)) _ wr P (hnx.ext HW2.out))
     by_cases hz:kKk kBj x=0
     ·have HA2:Hid (kHx kBj (l.drop (m+1))=kHx kBj l):=Lib.hid (by
       rw [←HB9.out,HDR.out]
       conv=>rhs;unfold kHx
       rw [hz]
       rfl)
      rw [hz] at HC
      clear hx hb hz hnx
      go_wp2_with fail
      refine HC.out.mono ?_
      rintro e w5 ⟨rfl,hu5⟩
      have HU5:=Lib.hid (HV.out.trans_ext hu5)
      clear hu5
      go_wp2_with fail
      go_roundw
      case rel=>first | exact⟨m+1,by omega,by go_num,HA2,HU5⟩ | exact⟨_,_,_,_,_,_,_,_,_,_,_,_,_,_,_,_,_,_,_,⟨m+1,by omega,by go_num,HA2,HU5⟩,rfl⟩
      case measure=>simp [intOf];omega
     ·have HF:Hid (kHx kBj l=kKk kBj x):=Lib.hid (by
       rw [←HB9.out,HDR.out]
       unfold kHx
       rw [if_pos hz])
      generalize hfx:kKk kBj x=fx at *
      have ez:((fx:Int)==0)=false:=by rw [beq_eq_false_iff_ne];omega
      have ez2:((fx:Int) != 0)=true:=by rw [bne,ez];rfl
      clear hx hb hz hnx hfx
      go_wp2_with fail
      refine HC.out.mono ?_
      rintro e w5 ⟨rfl,hu5⟩
      have HU5:=Lib.hid (HW2.out.trans_ext hu5)
      clear hu5
      go_wp2_with fail
      go_ret
      rw [HF.out]
      exact⟨rfl,HU5.out⟩
    ·have hgeJ:¬(m:Int)<l.length:=by omega
     have HF:Hid (kHx kBj l=0):=Lib.hid (by
      rw [←HB9.out,List.drop_of_length_le (by omega)]
      rfl)
     clear hb
     go_wp2_with fail
     go_ret
     rw [HF.out]
     exact⟨rfl,HW2.out⟩
theorem form_8a (k:Nat) (so nn mm:Int) (nms:List (List UInt8)) (l:List Nd) (hk:kBk l≤k) (hin:inN 10000000 (.mk 8 nms so nn mm l)) (_hk7:k+1≤10000000) (v:Value) (w:World) (P:Nat→Prop) (h:NdV w P (.mk 8 nms so nn mm l) v) (hk0:¬(8:Int)<0) (hk1:¬(17:Int)<8) (hsb:kBq 8 nms.length l.length=false) (hall:nms.all kBj=true) (hz:so≠0):Calls Tryz.prog 53 #[v] w fun e w'=>e=.returned (.int .i64 ((3:Nat):Int))∧Upto [] w w':=by
 obtain⟨a1,c1,a2,c2,rfl,hs,hg⟩:=h.open
 unfold inN at hin
 have HG:=Lib.hid hg
 obtain⟨a1',c1',ev,hnm⟩:=hs.get
 obtain⟨rfl,rfl⟩:a1=a1'∧c1=c1':=by simpa using ev
 have HN:Hid (∀i x,nms[i]?=some x→∃g o,a1=some ⟨g,o,none⟩∧w.cell? ⟨g,o+i,none⟩=some (.string ⟨x.toArray⟩)):=Lib.hid (fun i x hi=>hnm i _ (by rw [List.getElem?_map,hi];rfl))
 have HSZ:=Lib.hid hk
 have HIN:=Lib.hid hin
 have HAL:=Lib.hid hall
 have hu1:Upto [] w (w.alloc (.cells #[.int .i64 8,.slice a1 nms.length c1,.int .i64 so,.int .i64 nn,.int .i64 mm,.slice a2 l.length c2] 25)):=(Upto.refl [] w).alloc _
 have HB1:=Lib.hid (kAq w (.cells #[.int .i64 8,.slice a1 nms.length c1,.int .i64 so,.int .i64 nn,.int .i64 mm,.slice a2 l.length c2] 25))
 have HU1:=Lib.hid hu1
 have hll:=hin.2.2.1
 have hnl:=hin.1
 have hL0:(0:Int)≤l.length:=by omega
 have hL1:(l.length:Int)≤10000000:=by omega
 have hN0:(0:Int)≤nms.length:=by omega
 have hN1:(nms.length:Int)≤10000000:=by omega
 have HH:=Lib.hid (kKj 8)
 obtain⟨a,b,c,habc,ha17,hb17,hc17⟩:∃a b c:Nat,hasF 8=(a,b,c)∧a≤17∧b≤17∧c≤17:=by
  unfold hasF
  repeat' split
  all_goals exact⟨_,_,_,rfl,by decide,by decide,by decide⟩
 rw [habc] at HH
 simp only at HH
 obtain⟨hs0,hs1,hs2⟩:¬nms.length<a∧¬b<nms.length∧l.length=c:=by
  unfold kBq at hsb
  rw [habc] at hsb
  simp at hsb
  omega
 have ha0:(0:Int)≤a:=by omega
 have hb0:(0:Int)≤b:=by omega
 have hc0:(0:Int)≤c:=by omega
 have ha1:(a:Int)≤17:=by omega
 have hb1:(b:Int)≤17:=by omega
 have hc1:(c:Int)≤17:=by omega
 have q0:¬(nms.length:Int)<a:=by omega
 have q1:¬(b:Int)<nms.length:=by omega
 have q2:((l.length:Int) != (c:Int))=false:=by rw [hs2];simp
 clear habc hsb hall h hs hg hk hu1 hnm ev hin hs2
 go_enter Tryz.func53,Tryz.ntmps53
 go_wp2_with fail
 refine (HH.out (w.alloc (.cells #[.int .i64 8,.slice a1 nms.length c1,.int .i64 so,.int .i64 nn,.int .i64 mm,.slice a2 l.length c2] 25))).mono ?_
 rintro e w3 ⟨rfl,hu3⟩
 have HU3:=Lib.hid (HU1.out.trans_ext hu3)
 have hb3:=hu3.at HB1.out (by simp)
 have HB3:=Lib.hid hb3
 obtain⟨y0,y1,y2,y3,y4,y5⟩:=kAx hb3
 clear hu3 hb3
 go_wp2_with fail
 go_loopw [6] (fun i wr=>∃j:Nat,j≤nms.length∧i=.int .i64 j∧Hid (Upto [] w3 wr)) (fun i _=>nms.length-(intOf i).toNat)
 case atStart=>exact⟨0,by omega,rfl,Lib.hid (Upto.refl _ _)⟩
 case round =>
  clear y0 y1 y2 y3 y4 y5
  obtain⟨j,hj,rfl,HU⟩:=hrel
  have hj0:(0:Int)≤j:=by omega
  have hb:=HU.out.at HB3.out (by simp)
  have HB:=Lib.hid hb
  obtain⟨y0,y1,y2,y3,y4,y5⟩:=kAx hb
  have HW:=Lib.hid (HU3.out.trans_ext HU.out)
  rcases Nat.lt_or_ge j nms.length with hlt | hge
  ·have hltI:(j:Int)<nms.length:=by omega
   obtain⟨x,hx⟩:∃x,nms[j]?=some x:=⟨_,List.getElem?_eq_getElem hlt⟩
   have hxl:=HIN.out.2.1 x (List.mem_of_getElem? hx)
   obtain⟨g,o,rfl,c0⟩:=HN.out j x hx
   replace c0:=kAw HW.out c0
   have HC:=Lib.hid (kGz x wr (by omega))
   have hb2:kBj x=true:=List.all_eq_true.1 HAL.out x (List.mem_of_getElem? hx)
   rw [hb2] at HC
   clear hx hb hb2
   go_wp2_with fail
   refine HC.out.mono ?_
   rintro e w5 ⟨rfl,hu5⟩
   have HU5:=Lib.hid (HU.out.trans_ext hu5)
   clear hu5
   go_wp2_with fail
   go_roundw
   case rel=>first | exact⟨j+1,by omega,by go_num,HU5⟩ | exact⟨_,_,_,_,_,_,_,_,_,_,_,_,_,_,_,_,⟨j+1,by omega,by go_num,HU5⟩,rfl⟩
   case measure=>simp [intOf];omega
  ·have hgeI:¬(j:Int)<nms.length:=by omega
   clear hb q0 q1 q2 hs0 hs1 ha0 hb0 hc0 ha1 hb1 hc1 HH HAL HN
   have eso0:(so==(0:Int))=false:=by rw [beq_eq_false_iff_ne];exact hz
   have fso0:(so != (0:Int))=true:=by rw [bne,eso0];rfl
   go_wp2_with fail
   go_ret
   exact⟨rfl,HW.out⟩
theorem form_8b (k:Nat) (nn mm:Int) (nms:List (List UInt8)) (l:List Nd) (hk:kBk l≤k) (hin:inN 10000000 (.mk 8 nms 0 nn mm l)) (_hk7:k+1≤10000000) (v:Value) (w:World) (P:Nat→Prop) (h:NdV w P (.mk 8 nms 0 nn mm l) v) (hk0:¬(8:Int)<0) (hk1:¬(17:Int)<8) (hsb:kBq 8 nms.length l.length=false) (hall:nms.all kBj=true) (hz:mm<1):Calls Tryz.prog 53 #[v] w fun e w'=>e=.returned (.int .i64 ((2:Nat):Int))∧Upto [] w w':=by
 obtain⟨a1,c1,a2,c2,rfl,hs,hg⟩:=h.open
 unfold inN at hin
 have HG:=Lib.hid hg
 obtain⟨a1',c1',ev,hnm⟩:=hs.get
 obtain⟨rfl,rfl⟩:a1=a1'∧c1=c1':=by simpa using ev
 have HN:Hid (∀i x,nms[i]?=some x→∃g o,a1=some ⟨g,o,none⟩∧w.cell? ⟨g,o+i,none⟩=some (.string ⟨x.toArray⟩)):=Lib.hid (fun i x hi=>hnm i _ (by rw [List.getElem?_map,hi];rfl))
 have HSZ:=Lib.hid hk
 have HIN:=Lib.hid hin
 have HAL:=Lib.hid hall
 have hu1:Upto [] w (w.alloc (.cells #[.int .i64 8,.slice a1 nms.length c1,.int .i64 0,.int .i64 nn,.int .i64 mm,.slice a2 l.length c2] 25)):=(Upto.refl [] w).alloc _
 have HB1:=Lib.hid (kAq w (.cells #[.int .i64 8,.slice a1 nms.length c1,.int .i64 0,.int .i64 nn,.int .i64 mm,.slice a2 l.length c2] 25))
 have HU1:=Lib.hid hu1
 have hll:=hin.2.2.1
 have hnl:=hin.1
 have hL0:(0:Int)≤l.length:=by omega
 have hL1:(l.length:Int)≤10000000:=by omega
 have hN0:(0:Int)≤nms.length:=by omega
 have hN1:(nms.length:Int)≤10000000:=by omega
 have HH:=Lib.hid (kKj 8)
 obtain⟨a,b,c,habc,ha17,hb17,hc17⟩:∃a b c:Nat,hasF 8=(a,b,c)∧a≤17∧b≤17∧c≤17:=by
  unfold hasF
  repeat' split
  all_goals exact⟨_,_,_,rfl,by decide,by decide,by decide⟩
 rw [habc] at HH
 simp only at HH
 obtain⟨hs0,hs1,hs2⟩:¬nms.length<a∧¬b<nms.length∧l.length=c:=by
  unfold kBq at hsb
  rw [habc] at hsb
  simp at hsb
  omega
 have ha0:(0:Int)≤a:=by omega
 have hb0:(0:Int)≤b:=by omega
 have hc0:(0:Int)≤c:=by omega
 have ha1:(a:Int)≤17:=by omega
 have hb1:(b:Int)≤17:=by omega
 have hc1:(c:Int)≤17:=by omega
 have q0:¬(nms.length:Int)<a:=by omega
 have q1:¬(b:Int)<nms.length:=by omega
 have q2:((l.length:Int) != (c:Int))=false:=by rw [hs2];simp
 clear habc hsb hall h hs hg hk hu1 hnm ev hin hs2
 go_enter Tryz.func53,Tryz.ntmps53
 go_wp2_with fail
 refine (HH.out (w.alloc (.cells #[.int .i64 8,.slice a1 nms.length c1,.int .i64 0,.int .i64 nn,.int .i64 mm,.slice a2 l.length c2] 25))).mono ?_
 rintro e w3 ⟨rfl,hu3⟩
 have HU3:=Lib.hid (HU1.out.trans_ext hu3)
 have hb3:=hu3.at HB1.out (by simp)
 have HB3:=Lib.hid hb3
 obtain⟨y0,y1,y2,y3,y4,y5⟩:=kAx hb3
 clear hu3 hb3
 go_wp2_with fail
 go_loopw [6] (fun i wr=>∃j:Nat,j≤nms.length∧i=.int .i64 j∧Hid (Upto [] w3 wr)) (fun i _=>nms.length-(intOf i).toNat)
 case atStart=>exact⟨0,by omega,rfl,Lib.hid (Upto.refl _ _)⟩
 case round =>
  clear y0 y1 y2 y3 y4 y5
  obtain⟨j,hj,rfl,HU⟩:=hrel
  have hj0:(0:Int)≤j:=by omega
  have hb:=HU.out.at HB3.out (by simp)
  have HB:=Lib.hid hb
  obtain⟨y0,y1,y2,y3,y4,y5⟩:=kAx hb
  have HW:=Lib.hid (HU3.out.trans_ext HU.out)
  rcases Nat.lt_or_ge j nms.length with hlt | hge
  ·have hltI:(j:Int)<nms.length:=by omega
   obtain⟨x,hx⟩:∃x,nms[j]?=some x:=⟨_,List.getElem?_eq_getElem hlt⟩
   have hxl:=HIN.out.2.1 x (List.mem_of_getElem? hx)
   obtain⟨g,o,rfl,c0⟩:=HN.out j x hx
   replace c0:=kAw HW.out c0
   have HC:=Lib.hid (kGz x wr (by omega))
   have hb2:kBj x=true:=List.all_eq_true.1 HAL.out x (List.mem_of_getElem? hx)
   rw [hb2] at HC
   clear hx hb hb2
   go_wp2_with fail
   refine HC.out.mono ?_
   rintro e w5 ⟨rfl,hu5⟩
   have HU5:=Lib.hid (HU.out.trans_ext hu5)
   clear hu5
   go_wp2_with fail
   go_roundw
   case rel=>first | exact⟨j+1,by omega,by go_num,HU5⟩ | exact⟨_,_,_,_,_,_,_,_,_,_,_,_,_,_,_,_,⟨j+1,by omega,by go_num,HU5⟩,rfl⟩
   case measure=>simp [intOf];omega
  ·have hgeI:¬(j:Int)<nms.length:=by omega
   clear hb q0 q1 q2 hs0 hs1 ha0 hb0 hc0 ha1 hb1 hc1 HH HAL HN
   go_wp2_with fail
   go_ret
   exact⟨rfl,HW.out⟩
end Go.Proofs.YtkhbpebpljdifaaGreatDoor
