/- Merged texts. -/
import Derived.Test.YtkhbpebpljdifaaGreatDoorMPrb
import Derived.Deep.RegionLaw
set_option maxRecDepth 100000
set_option maxHeartbeats 25600000
namespace Go.Proofs.YtkhbpebpljdifaaGreatDoor
open Go.RowKit Go.PL
def IsC (w:World) (b:Nat):Prop:=∃cs t z,w.heap[b]?=some (.cells cs t z)
theorem IsC.lt {w:World} {b:Nat} (h:IsC w b):b<w.heap.size:=by
 obtain⟨cs,t,z,h⟩:=h
 exact kAk h
theorem IsC.stay {w w':World} {b:Nat} (h:IsC w b) (he:w'.heap[b]?=w.heap[b]?):IsC w' b:=by
 obtain⟨cs,t,z,h⟩:=h
 exact⟨cs,t,z,he.trans h⟩
def sV (x:List UInt8):Value:=.string ⟨x.toArray⟩
def SlP (w:World) (P:Nat→Prop) (v:Value) (n:Nat) (xs:List Value):Prop :=
 (n=0∧xs=[]∧∃a c,v=.slice a 0 c)∨∃g o c,v=.slice (some ⟨g,o,none⟩) n c∧(P g∧IsC w g∧n≤c)∧∀j u,xs[j]?=some u→w.cell? ⟨g,o+j,none⟩=some u
theorem SlP.len {w:World} {P:Nat→Prop} {v:Value} {n:Nat} {xs:List Value} (h:SlP w P v n xs):∃a c,v=.slice a n c:=by
 rcases h with⟨rfl,-,a,c,rfl⟩ | ⟨g,o,c,rfl,-⟩
 ·exact⟨a,c,rfl⟩
 ·exact⟨_,c,rfl⟩
structure Keep (w w':World) (P Q:Nat→Prop):Prop where
 size:w.heap.size≤w'.heap.size
 of:∀b,P b→IsC w b→Q b∧w'.heap[b]?=w.heap[b]?
theorem Keep.upto {S:List Nat} {w w':World} {P:Nat→Prop} (hu:Upto S w w') (hs:∀b,P b→IsC w b→b∉S):Keep w w' P P:=⟨hu.size,fun b hb hl=>⟨hb,hu.block b hl.lt (hs b hb hl)⟩⟩
theorem Keep.mono {w:World} {P Q:Nat→Prop} (h:∀b,P b→IsC w b→Q b):Keep w w P Q:=⟨Nat.le_refl _,fun b hb hl=>⟨h b hb hl,rfl⟩⟩
theorem SlP.keep {w w':World} {P Q:Nat→Prop} (hk:Keep w w' P Q) {v:Value} {n:Nat} {xs:List Value} (h:SlP w P v n xs):SlP w' Q v n xs:=by
 rcases h with h | ⟨g,o,c,rfl,⟨hg,hl,hnc⟩,hc⟩
 ·exact Or.inl h
 ·obtain⟨h1,h2⟩:=hk.of g hg hl
  refine Or.inr ⟨g,o,c,rfl,⟨h1,hl.stay h2,hnc⟩,fun j u hj=>?_⟩
  rw [World.cell?_of_block (w:=w) h2]
  exact hc j u hj
mutual
def NdV (w:World) (P:Nat→Prop):Nd→Value→Prop
 | .mk op names sort n m l,v=>∃vn vl,v=.agg #[.int .i64 op,vn,.int .i64 sort,.int .i64 n,.int .i64 m,vl]∧SlP w P vn names.length (names.map sV) ∧
   ((l=[]∧∃a c,vl=.slice a 0 c)∨∃g o c,vl=.slice (some ⟨g,o,none⟩) l.length c∧(P g∧IsC w g)∧NdsV w P g o l)
def NdsV (w:World) (P:Nat→Prop) (g:Nat):Nat→List Nd→Prop
 | _,[]=>True
 | o,x::xs=>(∃v0 v1 v2 v3 v4 v5,w.cell? ⟨g,o,none⟩=some v0∧w.cell? ⟨g,o+1,none⟩=some v1∧w.cell? ⟨g,o+2,none⟩=some v2∧w.cell? ⟨g,o+3,none⟩=some v3∧w.cell? ⟨g,o+4,none⟩=some v4∧w.cell? ⟨g,o+5,none⟩=some v5 ∧
   NdV w P x (.agg #[v0,v1,v2,v3,v4,v5]))∧NdsV w P g (o+6) xs
end
mutual
theorem NdV.keep {w w':World} {P Q:Nat→Prop} (hk:Keep w w' P Q):∀(nd:Nd) (v:Value),NdV w P nd v→NdV w' Q nd v
 | .mk op names sort n m l,v,h=>by
  unfold NdV at h ⊢
  obtain⟨vn,vl,e,h1,h2⟩:=h
  refine⟨vn,vl,e,h1.keep hk,?_⟩
  rcases h2 with h2 | ⟨g,o,c,e2,⟨hg,hl⟩,h3⟩
  ·exact Or.inl h2
  ·obtain⟨k1,k2⟩:=hk.of g hg hl
   exact Or.inr ⟨g,o,c,e2,⟨k1,hl.stay k2⟩,NdsV.keep hk g k2 l o h3⟩
theorem NdsV.keep {w w':World} {P Q:Nat→Prop} (hk:Keep w w' P Q) (g:Nat) (hg:w'.heap[g]?=w.heap[g]?):∀(l:List Nd) (o:Nat),NdsV w P g o l→NdsV w' Q g o l
 | [],_,_=>by unfold NdsV;trivial
 | x::xs,o,h=>by
  unfold NdsV at h ⊢
  obtain⟨⟨v0,v1,v2,v3,v4,v5,c0,c1,c2,c3,c4,c5,h1⟩,h2⟩:=h
  have up:∀{i:Nat} {u:Value},w.cell? ⟨g,i,none⟩=some u→w'.cell? ⟨g,i,none⟩=some u:=fun h=>(World.cell?_of_block (w:=w) hg).trans h
  exact⟨⟨v0,v1,v2,v3,v4,v5,up c0,up c1,up c2,up c3,up c4,up c5,NdV.keep hk x _ h1⟩,NdsV.keep hk g hg xs (o+6) h2⟩
end
theorem NdV.upto {S:List Nat} {w w':World} {P:Nat→Prop} {nd:Nd} {v:Value} (h:NdV w P nd v) (hu:Upto S w w') (hs:∀b,P b→IsC w b→b∉S):NdV w' P nd v:=NdV.keep (Keep.upto hu hs) nd v h
theorem NdV.ext {w w':World} {P:Nat→Prop} {nd:Nd} {v:Value} (h:NdV w P nd v) (hu:Upto [] w w'):NdV w' P nd v:=h.upto hu (by simp)
theorem NdV.mono {w:World} {P Q:Nat→Prop} {nd:Nd} {v:Value} (h:NdV w P nd v) (hpq:∀b,P b→IsC w b→Q b):NdV w Q nd v:=NdV.keep (Keep.mono hpq) nd v h
theorem SlP.upto {S:List Nat} {w w':World} {P:Nat→Prop} {v:Value} {n:Nat} {xs:List Value} (h:SlP w P v n xs) (hu:Upto S w w') (hs:∀b,P b→IsC w b→b∉S):SlP w' P v n xs:=h.keep (Keep.upto hu hs)
theorem SlP.ext {w w':World} {P:Nat→Prop} {v:Value} {n:Nat} {xs:List Value} (h:SlP w P v n xs) (hu:Upto [] w w'):SlP w' P v n xs:=h.upto hu (by simp)
theorem SlP.mono {w:World} {P Q:Nat→Prop} {v:Value} {n:Nat} {xs:List Value} (h:SlP w P v n xs) (hpq:∀b,P b→IsC w b→Q b):SlP w Q v n xs:=h.keep (Keep.mono hpq)
theorem NdV.six {w:World} {P:Nat→Prop} {nd:Nd} {v:Value} (h:NdV w P nd v):∃(op:Int) (a1:Option Addr) (n1 c1:Nat) (so n m:Int) (a2:Option Addr) (n2 c2:Nat),v=.agg #[.int .i64 op,.slice a1 n1 c1,.int .i64 so,.int .i64 n,.int .i64 m,.slice a2 n2 c2]:=by
 cases nd
 unfold NdV at h
 obtain⟨vn,vl,e,h1,h2⟩:=h
 obtain⟨a1,c1,rfl⟩:=h1.len
 rcases h2 with⟨-,a2,c2,rfl⟩ | ⟨g,o,c,rfl,-⟩
 ·exact⟨_,a1,_,c1,_,_,_,a2,0,c2,e⟩
 ·exact⟨_,a1,_,c1,_,_,_,_,_,c,e⟩
def zeroV:Value:=.agg #[.int .i64 0,.slice none 0 0,.int .i64 0,.int .i64 0,.int .i64 0,.slice none 0 0]
theorem NdV.zero (w:World) (P:Nat→Prop):NdV w P .zero zeroV:=by
 unfold Nd.zero NdV
 exact⟨_,_,rfl,Or.inl ⟨rfl,rfl,none,0,rfl⟩,Or.inl ⟨rfl,none,0,rfl⟩⟩
theorem NdV.atom {w:World} {P:Nat→Prop} {op so n m:Int} {names:List (List UInt8)} {vn:Value} (h:SlP w P vn names.length (names.map sV)):NdV w P (.mk op names so n m []) (.agg #[.int .i64 op,vn,.int .i64 so,.int .i64 n,.int .i64 m,.slice none 0 0]):=by
 unfold NdV
 exact⟨_,_,rfl,h,Or.inl ⟨rfl,none,0,rfl⟩⟩
theorem NdV.one {w:World} {P:Nat→Prop} {op so:Int} {names:List (List UInt8)} {vn:Value} {x:Nd} {a0 a1 a2 a3 a4 a5:Value} {g:Nat} {t:TypeId} {z:Nat×Nat} (h:SlP w P vn names.length (names.map sV)) (hx:NdV w P x (.agg #[a0,a1,a2,a3,a4,a5])) (hg:P g)
  (hb:w.heap[g]?=some (.cells #[a0,a1,a2,a3,a4,a5] t z)):NdV w P (.mk op names so 0 0 [x]) (.agg #[.int .i64 op,vn,.int .i64 so,.int .i64 0,.int .i64 0,.slice (some ⟨g,0,none⟩) 1 1]):=by
 unfold NdV
 refine⟨_,_,rfl,h,Or.inr ⟨g,0,1,rfl,⟨hg,_,_,_,hb⟩,?_⟩⟩
 unfold NdsV NdsV
 exact⟨⟨a0,a1,a2,a3,a4,a5,by rw [kAz hb];rfl,by rw [kAz hb];rfl,by rw [kAz hb];rfl,by rw [kAz hb];rfl,by rw [kAz hb];rfl,by rw [kAz hb];rfl,hx⟩,trivial⟩
theorem NdV.two {w:World} {P:Nat→Prop} {op so:Int} {names:List (List UInt8)} {vn:Value} {x y:Nd} {a0 a1 a2 a3 a4 a5 b0 b1 b2 b3 b4 b5:Value} {g:Nat} {t:TypeId} {z:Nat×Nat} (h:SlP w P vn names.length (names.map sV)) (hx:NdV w P x (.agg #[a0,a1,a2,a3,a4,a5])) (hy:NdV w P y (.agg #[b0,b1,b2,b3,b4,b5])) (hg:P g)
  (hb:w.heap[g]?=some (.cells #[a0,a1,a2,a3,a4,a5,b0,b1,b2,b3,b4,b5] t z)):NdV w P (.mk op names so 0 0 [x,y]) (.agg #[.int .i64 op,vn,.int .i64 so,.int .i64 0,.int .i64 0,.slice (some ⟨g,0,none⟩) 2 2]):=by
 unfold NdV
 refine⟨_,_,rfl,h,Or.inr ⟨g,0,2,rfl,⟨hg,_,_,_,hb⟩,?_⟩⟩
 unfold NdsV NdsV NdsV
 exact⟨⟨a0,a1,a2,a3,a4,a5,by rw [kAz hb];rfl,by rw [kAz hb];rfl,by rw [kAz hb];rfl,by rw [kAz hb];rfl,by rw [kAz hb];rfl,by rw [kAz hb];rfl,hx⟩,
  ⟨b0,b1,b2,b3,b4,b5,by rw [kAz hb];rfl,by rw [kAz hb];rfl,by rw [kAz hb];rfl,by rw [kAz hb];rfl,by rw [kAz hb];rfl,by rw [kAz hb];rfl,hy⟩,trivial⟩
theorem SlP.nil {w:World} {P:Nat→Prop}:SlP w P (.slice none 0 0) 0 []:=Or.inl ⟨rfl,rfl,none,0,rfl⟩
theorem SlP.block {w:World} {P:Nat→Prop} {g:Nat} {cs:Array Value} {t:TypeId} {z:Nat×Nat} (hg:P g) (hb:w.heap[g]?=some (.cells cs t z)) (n c:Nat) (xs:List Value) (hx:∀(j:Nat) u,xs[j]?=some u→cs[j]?=some u) (hnc:n≤c:=by omega):SlP w P (.slice (some ⟨g,0,none⟩) n c) n xs :=
 Or.inr ⟨g,0,c,rfl,⟨hg,⟨_,_,_,hb⟩,hnc⟩,fun j u hj=>by rw [Nat.zero_add,kAz hb];exact hx j u hj⟩
def New (w:World) (b:Nat):Prop:=w.heap.size≤b
theorem New.mono {w w':World} {S:List Nat} (h:Upto S w w') (b:Nat) (hb:New w' b):New w b:=Nat.le_trans h.size hb
theorem NdsV.get {w:World} {P:Nat→Prop} {g:Nat}:∀(l:List Nd) (o i:Nat) (x:Nd),NdsV w P g o l→l[i]?=some x→∃v0 v1 v2 v3 v4 v5,w.cell? ⟨g,o+i*6,none⟩=some v0∧w.cell? ⟨g,o+i*6+1,none⟩=some v1∧w.cell? ⟨g,o+i*6+2,none⟩=some v2∧w.cell? ⟨g,o+i*6+3,none⟩=some v3∧w.cell? ⟨g,o+i*6+4,none⟩=some v4∧w.cell? ⟨g,o+i*6+5,none⟩=some v5∧NdV w P x (.agg #[v0,v1,v2,v3,v4,v5])
 | [],o,i,x,_,h=>by simp at h
 | y::ys,o,0,x,h,hi=>by
  simp at hi
  subst hi
  unfold NdsV at h
  simpa using h.1
 | y::ys,o,i+1,x,h,hi=>by
  unfold NdsV at h
  have:=NdsV.get ys (o+6) i x h.2 (by simpa using hi)
  rwa [show o+6+i*6=o+(i+1)*6 by omega] at this
theorem kJx (n:Nd):1≤kCz n:=by
 cases n
 simp only [kCz]
 omega
theorem sizesF_take (l:List Nd) (i:Nat) (x:Nd) (h:l[i]?=some x):kBk (l.take (i+1))=kBk (l.take i)+kCz x∧kBk (l.take i)+kCz x≤kBk l:=by
 obtain⟨hi,rfl⟩:=List.getElem?_eq_some_iff.1 h
 have e:l.take (i+1)=l.take i++[l[i]]:=List.take_succ_eq_append_getElem hi
 have h1:kBk (l.take (i+1))=kBk (l.take i)+kCz l[i]:=by rw [e,sizesF_append];simp [kBk]
 refine⟨h1,?_⟩
 have h2:kBk l=kBk (l.take (i+1))+kBk (l.drop (i+1)):=by rw [←sizesF_append,List.take_append_drop]
 omega
theorem depthsF_append (a b:List Nd):kLz (a++b)=max (kLz a) (kLz b):=by
 induction a with
 | nil=>simp [kLz]
 | cons x xs ih=>simp only [List.cons_append,kLz,ih];omega
theorem depthsF_take (l:List Nd) (i:Nat) (x:Nd) (h:l[i]?=some x):kLz (l.take (i+1))=max (kLz (l.take i)) (kNw x):=by
 obtain⟨hi,rfl⟩:=List.getElem?_eq_some_iff.1 h
 have e:l.take (i+1)=l.take i++[l[i]]:=List.take_succ_eq_append_getElem hi
 rw [e,depthsF_append]
 simp [kLz]
end Go.Proofs.YtkhbpebpljdifaaGreatDoor
namespace Go.Proofs.YtkhbpebpljdifaaGreatDoor
open Go.RowKit Go.PL Go.Maps
structure SEnv (w:World):Prop where
 c0:w.cell? ⟨0,0,none⟩=some (.string ⟨[118,101,114,116,101,120].toArray⟩)
 c1:w.cell? ⟨0,1,none⟩=some (.string ⟨[101,100,103,101].toArray⟩)
 c2:w.cell? ⟨0,2,none⟩=some (.string ⟨[115,101,116].toArray⟩)
 c3:w.cell? ⟨0,3,none⟩=some (.string ⟨[101,100,103,101,115].toArray⟩)
theorem SEnv.upto {S:List Nat} {w w':World} (h:SEnv w) (hu:Upto S w w') (h2:0∉S):SEnv w' :=
 ⟨(hu.cell (World.block_lt_of_cell? w _ h.c0) h2).trans h.c0,(hu.cell (World.block_lt_of_cell? w _ h.c1) h2).trans h.c1,(hu.cell (World.block_lt_of_cell? w _ h.c2) h2).trans h.c2,(hu.cell (World.block_lt_of_cell? w _ h.c3) h2).trans h.c3⟩
structure Cx (w:World) (p:Nat) (l:List Tok):Prop where
 srt:SEnv w
 p2:p≠0
 len:l.length≤1000000
theorem Cx.upto {w w':World} {p:Nat} {l:List Tok} (h:Cx w p l) (hu:Upto [p] w w'):Cx w' p l:=⟨h.srt.upto hu (by have:=h.p2;simp;omega),h.p2,h.len⟩
theorem Cx.ext {w w':World} {p:Nat} {l:List Tok} (h:Cx w p l) (hu:Upto [] w w'):Cx w' p l:=h.upto (hu.mono (by simp))
theorem RdAt.lt {w:World} {p:Nat} {l:List Tok} {s:PS} (h:RdAt w p l s):p<w.heap.size:=by
 obtain⟨⟨v,hb,-,-⟩,-,-⟩:=h
 exact kAk hb
theorem kEz {w:World} {B:Nat} {a b c d e f:Value} {T:TypeId} (h:w.heap[B]?=some (.cells #[a,b,c,d,e,f] T (0,0))) (a' b' c' d' e' f':Value) :
  ((((((w.setCell ⟨B,0,none⟩ a').setCell ⟨B,1,none⟩ b').setCell ⟨B,2,none⟩ c').setCell ⟨B,3,none⟩ d').setCell ⟨B,4,none⟩ e').setCell ⟨B,5,none⟩ f').heap[B]?=some (.cells #[a',b',c',d',e',f'] T (0,0)):=by
 have:=kCw (kCw (kCw (kCw (kCw (kCw h 0 a') 1 b') 2 c') 3 d') 4 e') 5 f'
 simpa using this
theorem nd_up {S:List Nat} {v w:World} {B:Nat} (h:Upto S v w) (hB:B∈S∨v.heap.size≤B) (a' b' c' d' e' f':Value) :
  Upto S v ((((((w.setCell ⟨B,0,none⟩ a').setCell ⟨B,1,none⟩ b').setCell ⟨B,2,none⟩ c').setCell ⟨B,3,none⟩ d').setCell ⟨B,4,none⟩ e').setCell ⟨B,5,none⟩ f') :=
 (((((h.setCell hB _).setCell hB _).setCell hB _).setCell hB _).setCell hB _).setCell hB _
theorem nd_self (w:World) (B:Nat) (a' b' c' d' e' f':Value) :
  Upto [B] w ((((((w.setCell ⟨B,0,none⟩ a').setCell ⟨B,1,none⟩ b').setCell ⟨B,2,none⟩ c').setCell ⟨B,3,none⟩ d').setCell ⟨B,4,none⟩ e').setCell ⟨B,5,none⟩ f'):=nd_up (Upto.refl _ _) (Or.inl (by simp)) ..
theorem sort_calls (w:World) (p:Nat) (l:List Tok) (s:PS) (hx:Cx w p l) (h:RdAt w p l s):Calls Tryz.prog 98 #[.pointer (some ⟨p,0,none⟩)] w fun e w'=>e=.returned (.int .i64 (kBz l s).1)∧RdAt w' p l (kBz l s).2∧Upto [p] w w':=by
 have HT:=Lib.hid (fun w1 x (h1:RdAt w1 p l s)=>kEj w1 p l s x h1 hx.len)
 obtain⟨⟨g0,g1,g2,g3⟩,-,-⟩:=hx
 have HR:=Lib.hid h
 clear h
 go_enter Tryz.func98,Tryz.ntmps98
 go_wp2_with fail
 go_loopw [6] (fun i wr=>∃k:Nat,k≤4∧i=.int .i64 k∧Hid (RdAt wr p l s∧Upto [p] w wr∧∀j,j<k→isF l (kDj.getD j []) s=false)) (fun i _=>4-(intOf i).toNat)
 case atStart=>exact⟨0,by omega,rfl,Lib.hid ⟨HR.out,Upto.refl _ _,fun j h=>by omega⟩⟩
 case round =>
  obtain⟨k,hk,rfl,HI⟩:=hrel
  have hc:k=0∨k=1∨k=2∨k=3∨k=4:=by omega
  clear g0 g1 g2 g3
  rcases hc with rfl | rfl | rfl | rfl | rfl
  ·have ix:∀w,(Instr.index 97 (.agg #[.string ⟨#[118,101,114,116,101,120]⟩,.string ⟨#[101,100,103,101]⟩,.string ⟨#[115,101,116]⟩,.string ⟨#[101,100,103,101,115]⟩]) (.int .i64 0)).run Tryz.prog w=.ok (.string ⟨#[118,101,114,116,101,120]⟩) w:=fun _=>by kernel_rfl
   have HC:=Lib.hid (HT.out wr [118,101,114,116,101,120] HI.out.1)
   cases hv:isF l [118,101,114,116,101,120] s with
   | true =>
    rw [hv] at HC
    have HV:Hid (kBz l s=(0,kBx s)∧(kDz l [118,101,114,116,101,120] s).2=kBx s):=Lib.hid (by
     refine⟨?_,by unfold kDz;rw [if_pos hv]⟩
     unfold kBz kDj
     simp [kPk,hv])
    clear hv
    go_wp2_with fail
    refine HC.out.mono ?_
    rintro e w1 ⟨rfl,hR1,hu1⟩
    have HS:=Lib.hid hR1
    have HU:=Lib.hid (HI.out.2.1.trans_same hu1)
    clear hR1 hu1
    go_wp2_with fail
    go_ret
    exact⟨by rw [HV.out.1];rfl,by rw [HV.out.1];have:=HS.out;rw [HV.out.2] at this;exact this,HU.out⟩
   | false =>
    rw [hv] at HC
    have HV:Hid ((kDz l [118,101,114,116,101,120] s).2=s∧isF l [118,101,114,116,101,120] s=false):=Lib.hid ⟨by unfold kDz;rw [hv];rfl,hv⟩
    clear hv
    go_wp2_with fail
    refine HC.out.mono ?_
    rintro e w1 ⟨rfl,hR1,hu1⟩
    have HS:=Lib.hid hR1
    have HU:=Lib.hid (HI.out.2.1.trans_same hu1)
    clear hR1 hu1
    go_wp2_with fail
    go_roundw
    case rel=>exact⟨1,by omega,by go_num,Lib.hid ⟨by have:=HS.out;rw [HV.out.1] at this;exact this,HU.out,fun j hj=>by
     by_cases hjk:j<0
     ·exact HI.out.2.2 j hjk
     ·obtain rfl:j=0:=by omega
      exact HV.out.2⟩⟩
    case measure=>simp [intOf]
  ·have ix:∀w,(Instr.index 97 (.agg #[.string ⟨#[118,101,114,116,101,120]⟩,.string ⟨#[101,100,103,101]⟩,.string ⟨#[115,101,116]⟩,.string ⟨#[101,100,103,101,115]⟩]) (.int .i64 1)).run Tryz.prog w=.ok (.string ⟨#[101,100,103,101]⟩) w:=fun _=>by kernel_rfl
   have HC:=Lib.hid (HT.out wr [101,100,103,101] HI.out.1)
   cases hv:isF l [101,100,103,101] s with
   | true =>
    rw [hv] at HC
    have HV:Hid (kBz l s=(1,kBx s)∧(kDz l [101,100,103,101] s).2=kBx s):=Lib.hid (by
     have f0:isF l [118,101,114,116,101,120] s=false:=HI.out.2.2 0 (by omega)
     refine⟨?_,by unfold kDz;rw [if_pos hv]⟩
     unfold kBz kDj
     simp [kPk,f0,hv])
    clear hv
    go_wp2_with fail
    refine HC.out.mono ?_
    rintro e w1 ⟨rfl,hR1,hu1⟩
    have HS:=Lib.hid hR1
    have HU:=Lib.hid (HI.out.2.1.trans_same hu1)
    clear hR1 hu1
    go_wp2_with fail
    go_ret
    exact⟨by rw [HV.out.1];rfl,by rw [HV.out.1];have:=HS.out;rw [HV.out.2] at this;exact this,HU.out⟩
   | false =>
    rw [hv] at HC
    have HV:Hid ((kDz l [101,100,103,101] s).2=s∧isF l [101,100,103,101] s=false):=Lib.hid ⟨by unfold kDz;rw [hv];rfl,hv⟩
    clear hv
    go_wp2_with fail
    refine HC.out.mono ?_
    rintro e w1 ⟨rfl,hR1,hu1⟩
    have HS:=Lib.hid hR1
    have HU:=Lib.hid (HI.out.2.1.trans_same hu1)
    clear hR1 hu1
    go_wp2_with fail
    go_roundw
    case rel=>exact⟨2,by omega,by go_num,Lib.hid ⟨by have:=HS.out;rw [HV.out.1] at this;exact this,HU.out,fun j hj=>by
     by_cases hjk:j<1
     ·exact HI.out.2.2 j hjk
     ·obtain rfl:j=1:=by omega
      exact HV.out.2⟩⟩
    case measure=>simp [intOf]
  ·have ix:∀w,(Instr.index 97 (.agg #[.string ⟨#[118,101,114,116,101,120]⟩,.string ⟨#[101,100,103,101]⟩,.string ⟨#[115,101,116]⟩,.string ⟨#[101,100,103,101,115]⟩]) (.int .i64 2)).run Tryz.prog w=.ok (.string ⟨#[115,101,116]⟩) w:=fun _=>by kernel_rfl
   have HC:=Lib.hid (HT.out wr [115,101,116] HI.out.1)
   cases hv:isF l [115,101,116] s with
   | true =>
    rw [hv] at HC
    have HV:Hid (kBz l s=(2,kBx s)∧(kDz l [115,101,116] s).2=kBx s):=Lib.hid (by
     have f0:isF l [118,101,114,116,101,120] s=false:=HI.out.2.2 0 (by omega)
     have f1:isF l [101,100,103,101] s=false:=HI.out.2.2 1 (by omega)
     refine⟨?_,by unfold kDz;rw [if_pos hv]⟩
     unfold kBz kDj
     simp [kPk,f0,f1,hv])
    clear hv
    go_wp2_with fail
    refine HC.out.mono ?_
    rintro e w1 ⟨rfl,hR1,hu1⟩
    have HS:=Lib.hid hR1
    have HU:=Lib.hid (HI.out.2.1.trans_same hu1)
    clear hR1 hu1
    go_wp2_with fail
    go_ret
    exact⟨by rw [HV.out.1];rfl,by rw [HV.out.1];have:=HS.out;rw [HV.out.2] at this;exact this,HU.out⟩
   | false =>
    rw [hv] at HC
    have HV:Hid ((kDz l [115,101,116] s).2=s∧isF l [115,101,116] s=false):=Lib.hid ⟨by unfold kDz;rw [hv];rfl,hv⟩
    clear hv
    go_wp2_with fail
    refine HC.out.mono ?_
    rintro e w1 ⟨rfl,hR1,hu1⟩
    have HS:=Lib.hid hR1
    have HU:=Lib.hid (HI.out.2.1.trans_same hu1)
    clear hR1 hu1
    go_wp2_with fail
    go_roundw
    case rel=>exact⟨3,by omega,by go_num,Lib.hid ⟨by have:=HS.out;rw [HV.out.1] at this;exact this,HU.out,fun j hj=>by
     by_cases hjk:j<2
     ·exact HI.out.2.2 j hjk
     ·obtain rfl:j=2:=by omega
      exact HV.out.2⟩⟩
    case measure=>simp [intOf]
  ·have ix:∀w,(Instr.index 97 (.agg #[.string ⟨#[118,101,114,116,101,120]⟩,.string ⟨#[101,100,103,101]⟩,.string ⟨#[115,101,116]⟩,.string ⟨#[101,100,103,101,115]⟩]) (.int .i64 3)).run Tryz.prog w=.ok (.string ⟨#[101,100,103,101,115]⟩) w:=fun _=>by kernel_rfl
   have HC:=Lib.hid (HT.out wr [101,100,103,101,115] HI.out.1)
   cases hv:isF l [101,100,103,101,115] s with
   | true =>
    rw [hv] at HC
    have HV:Hid (kBz l s=(3,kBx s)∧(kDz l [101,100,103,101,115] s).2=kBx s):=Lib.hid (by
     have f0:isF l [118,101,114,116,101,120] s=false:=HI.out.2.2 0 (by omega)
     have f1:isF l [101,100,103,101] s=false:=HI.out.2.2 1 (by omega)
     have f2:isF l [115,101,116] s=false:=HI.out.2.2 2 (by omega)
     refine⟨?_,by unfold kDz;rw [if_pos hv]⟩
     unfold kBz kDj
     simp [kPk,f0,f1,f2,hv])
    clear hv
    go_wp2_with fail
    refine HC.out.mono ?_
    rintro e w1 ⟨rfl,hR1,hu1⟩
    have HS:=Lib.hid hR1
    have HU:=Lib.hid (HI.out.2.1.trans_same hu1)
    clear hR1 hu1
    go_wp2_with fail
    go_ret
    exact⟨by rw [HV.out.1];rfl,by rw [HV.out.1];have:=HS.out;rw [HV.out.2] at this;exact this,HU.out⟩
   | false =>
    rw [hv] at HC
    have HV:Hid ((kDz l [101,100,103,101,115] s).2=s∧isF l [101,100,103,101,115] s=false):=Lib.hid ⟨by unfold kDz;rw [hv];rfl,hv⟩
    clear hv
    go_wp2_with fail
    refine HC.out.mono ?_
    rintro e w1 ⟨rfl,hR1,hu1⟩
    have HS:=Lib.hid hR1
    have HU:=Lib.hid (HI.out.2.1.trans_same hu1)
    clear hR1 hu1
    go_wp2_with fail
    go_roundw
    case rel=>exact⟨4,by omega,by go_num,Lib.hid ⟨by have:=HS.out;rw [HV.out.1] at this;exact this,HU.out,fun j hj=>by
     by_cases hjk:j<3
     ·exact HI.out.2.2 j hjk
     ·obtain rfl:j=3:=by omega
      exact HV.out.2⟩⟩
    case measure=>simp [intOf]
  ·have HV:Hid (kBz l s=(0,kCk 3 s)):=Lib.hid (by
    have f0:isF l [118,101,114,116,101,120] s=false:=HI.out.2.2 0 (by omega)
    have f1:isF l [101,100,103,101] s=false:=HI.out.2.2 1 (by omega)
    have f2:isF l [115,101,116] s=false:=HI.out.2.2 2 (by omega)
    have f3:isF l [101,100,103,101,115] s=false:=HI.out.2.2 3 (by omega)
    unfold kBz kDj
    simp [kPk,f0,f1,f2,f3])
   have HW:=Lib.hid (kLj wr p 3 l s HI.out.1)
   go_wp2_with fail
   refine HW.out.mono ?_
   rintro e w1 ⟨rfl,hR1,hu1⟩
   have HS:=Lib.hid hR1
   have HU:=Lib.hid (HI.out.2.1.trans_same hu1)
   clear hR1 hu1
   go_wp2_with fail
   go_ret
   exact⟨by rw [HV.out];rfl,by rw [HV.out];exact HS.out,HU.out⟩
def kMk (w:World) (p:Nat) (l:List Tok) (s:PS) (n:Nd) (s':PS) (e:Ending) (w':World):Prop :=
 ∃v,e=.returned v∧NdV w' (New w) n v∧RdAt w' p l s'∧Upto [p] w w'∧Adv l s s'
def Rdr (w0:World) (p:Nat) (l:List Tok) (k:FuncId) (args:Array Value) (of:Rd):Prop :=
 ∀w s n s',Upto [p] w0 w→RdAt w p l s→s.dp≤256→of s=some (n,s')→Calls Tryz.prog k args w (kMk w p l s n s')
theorem Rdr.upto {w0 w1:World} {p:Nat} {l:List Tok} {k:FuncId} {args:Array Value} {of:Rd} (h:Rdr w0 p l k args of) (hu:Upto [p] w0 w1):Rdr w1 p l k args of :=
 fun w s n s' h1 h2 h3 h4=>h w s n s' (hu.trans_same h1) h2 h3 h4
theorem RdAt.depth {w:World} {p:Nat} {l:List Tok} {s:PS} (h:RdAt w p l s) (d:Nat):RdAt (w.setCell ⟨p,3,none⟩ (.int .i64 d)) p l ⟨s.nx,s.er,d⟩∧Upto [p] w (w.setCell ⟨p,3,none⟩ (.int .i64 d)):=by
 obtain⟨⟨v,hb,hT,hg⟩,hin,hf⟩:=h
 have hu:=(Upto.refl [p] w).setCell (p:=⟨p,3,none⟩) (Or.inl (by simp)) (.int .i64 d)
 refine⟨⟨⟨v,?_,hT.upto hu (fun g o n c e hm=>by simp at hm;have:=hg g o n c e;omega),hg⟩,hin,hf⟩,hu⟩
 rw [kCw hb 3]
 rfl
theorem RdAt.other {w w':World} {p B:Nat} {l:List Tok} {s:PS} {cs:Array Value} {T:TypeId} {z:Nat×Nat} (h:RdAt w p l s) (hb:w.heap[B]?=some (.cells cs T z)) (hc:∀(o:Nat) x,cs[o+1]?=some (.string x)→cs[o+4]?=none) (hu:Upto [B] w w') (hBp:B≠p):RdAt w' p l s:=by
 obtain⟨⟨v,hp,hT,hg⟩,hin,hf⟩:=h
 refine⟨⟨v,hu.at hp (by simp;omega),hT.upto hu ?_,hg⟩,hin,hf⟩
 intro g o n c e hm
 simp at hm
 subst hm
 rcases hT.at with⟨h0,_⟩ | ⟨g',o',c',rfl,hat⟩
 ·rw [h0] at hin;simp at hin
 ·simp at e
  obtain⟨⟨rfl,rfl⟩,-,-⟩:=e
  obtain⟨t,ht⟩:∃t,l[0]?=some t:=⟨_,List.getElem?_eq_getElem (by omega)⟩
  obtain⟨c0,c1,c2,c3,c4⟩:=hat _ _ ht
  rw [kAz hb] at c1 c4
  simp at c1 c4
  rw [hc _ _ c1] at c4
  cases c4
theorem RdAt.above {w w':World} {p:Nat} {l:List Tok} {s:PS} {S:List Nat} (h:RdAt w p l s) (hu:Upto S w w') (hS:∀k∈S,p<k):RdAt w' p l s:=by
 obtain⟨⟨v,hp,hT,hg⟩,hin,hf⟩:=h
 refine⟨⟨v,hu.at hp (fun hm=>Nat.lt_irrefl _ (hS _ hm)),hT.upto hu ?_,hg⟩,hin,hf⟩
 intro g o n c e hm
 have h1:=hg g o n c e
 have h2:=hS g hm
 omega
theorem kPz {a c d e:Int} {b f:Value} (hb:∀x,b≠.string x) (_hf:∀x,f≠.string x):∀(o:Nat) x,(#[.int .i64 a,b,.int .i64 c,.int .i64 d,.int .i64 e,f]:Array Value)[o+1]?=some (.string x)→(#[.int .i64 a,b,.int .i64 c,.int .i64 d,.int .i64 e,f]:Array Value)[o+4]?=none:=by
 intro o x h
 match o,h with
 | 0,h=>simp at h;exact absurd h (hb x)
 | 1,h=>simp at h
 | 2,h=>simp
 | 3,h=>simp
 | 4,h=>simp
 | o+5,h=>simp
theorem rdpost_fin {w w1 w2:World} {p B:Nat} {l:List Tok} {s s':PS} {n:Nd} (hB:w.heap.size=B) (hp:p<B) (hu0:Upto [p] w w1) (hs:B<w1.heap.size) (hu1:Upto [p] w1 w2) (hR:RdAt w2 p l s') {T:TypeId}
  (hz:w2.heap[B]?=some (.cells #[.int .i64 0,.slice none 0 0,.int .i64 0,.int .i64 0,.int .i64 0,.slice none 0 0] T (0,0))) (ha:Adv l s s') {a b c d e f:Value} (hn:NdV w2 (New w1) n (.agg #[a,b,c,d,e,f])) :
  kMk w p l s n s' (.returned (.agg #[a,b,c,d,e,f])) ((((((w2.setCell ⟨B,0,none⟩ a).setCell ⟨B,1,none⟩ b).setCell ⟨B,2,none⟩ c).setCell ⟨B,3,none⟩ d).setCell ⟨B,4,none⟩ e).setCell ⟨B,5,none⟩ f):=by
 have hst:=nd_self w2 B a b c d e f
 have h1:=hu0.size
 refine⟨_,rfl,?_,hR.other hz (kPz (by simp) (by simp)) hst (by omega),nd_up (hu0.trans_same hu1) (Or.inr (by omega)) ..,ha⟩
 exact (hn.upto hst (fun b hb _=>by unfold New at hb;simp;omega)).mono fun b hb _=>New.mono hu0 b hb
theorem zero_same:True:=trivial
theorem rdpost_zero {w W0 w2:World} {p B:Nat} {l:List Tok} {s s':PS} (hB:w.heap.size=B) (hp:p<B) (hu0:Upto [p] w W0) (hu1:Upto [p] W0 w2) (hR:RdAt w2 p l s') {T:TypeId}
  (hz:w2.heap[B]?=some (.cells #[.int .i64 0,.slice none 0 0,.int .i64 0,.int .i64 0,.int .i64 0,.slice none 0 0] T (0,0))) (ha:Adv l s s') (_:True) :
  kMk w p l s .zero s' (.returned (.agg #[.int .i64 0,.slice none 0 0,.int .i64 0,.int .i64 0,.int .i64 0,.slice none 0 0])) ((((((w2.setCell ⟨B,0,none⟩ (.int .i64 0)).setCell ⟨B,1,none⟩ (.slice none 0 0)).setCell ⟨B,2,none⟩ (.int .i64 0)).setCell ⟨B,3,none⟩ (.int .i64 0)).setCell ⟨B,4,none⟩ (.int .i64 0)).setCell ⟨B,5,none⟩ (.slice none 0 0)):=by
 have hst:=nd_self w2 B (.int .i64 0) (.slice none 0 0) (.int .i64 0) (.int .i64 0) (.int .i64 0) (.slice none 0 0)
 exact⟨_,rfl,NdV.zero _ _,hR.other hz (kPz (by simp) (by simp)) hst (by omega),nd_up (hu0.trans_same hu1) (Or.inr (by omega)) ..,ha⟩
theorem level_calls (w:World) (p:Nat) (l:List Tok) (s s':PS) (n:Nd) (k:FuncId) (cap:Array Value) (of:Rd) (hx:Cx w p l) (h:RdAt w p l s) (hd:s.dp≤256) (hk0:(tkAt l s).kind≠0)
  (hk:∀args w,(callFunc k args).run Tryz.prog w=.ok (.enter k args) w) (hr:Rdr w p l k cap of) (he:levelP of s=some (n,s')) :
  Calls Tryz.prog 176 #[.pointer (some ⟨p,0,none⟩),.func (.func k) #[] cap] w (kMk w p l s n s'):=by
 have hin:=h.inb
 have hlen:=hx.len
 have HF:Hid (Fin l):=Lib.hid h.fin
 have HR:=Lib.hid h
 have HX:=Lib.hid hx
 clear hx h
 by_cases h6:s.dp=256
 ·have k6:((s.dp:Int)==256)=true:=by simp [h6]
  have hw0:=wrongF_er 16 (by decide) s
  have k3:(((kCk 16 s).er:Int) != 0)=true:=by rw [bne,show (((kCk 16 s).er:Int)==0)=false by rw [beq_eq_false_iff_ne];omega];rfl
  have HV:Hid (n=.zero∧s'=kCk 16 s):=Lib.hid (by
   unfold levelP at he
   simp only [if_pos h6,if_neg hw0] at he
   cases he
   exact⟨rfl,rfl⟩)
  have HC:=Lib.hid hr
  clear h6 hw0 he hr hk
  have hu0:Upto [] w (w.alloc (.cells #[.int .i64 0,.slice none 0 0,.int .i64 0,.int .i64 0,.int .i64 0,.slice none 0 0] 34)):=(Upto.refl [] w).alloc _
  have h0:=HR.out.ext hu0
  have HNew:=Lib.hid (kAq w (.cells #[.int .i64 0,.slice none 0 0,.int .i64 0,.int .i64 0,.int .i64 0,.slice none 0 0] 34))
  have HX0:=Lib.hid (HX.out.ext hu0)
  have HRd:=Lib.hid (HC.out.upto (hu0.mono (by simp)))
  have HpB:Hid (p<w.heap.size):=Lib.hid HR.out.lt
  obtain⟨⟨v,hb,-,-⟩,-,-⟩:=id h0
  have b1:=kAz hb 1
  have b2:=kAz hb 2
  have b3:=kAz hb 3
  have f1:=kDx hb 1
  have f3:=kDx hb 3
  unfold rdC at b1 b2 b3
  simp only [List.getElem?_toArray,List.getElem?_cons_zero,List.getElem?_cons_succ] at b1 b2 b3
  have HR0:=Lib.hid h0
  have HU0:=Lib.hid hu0
  clear h0 hb hu0
  clear b1 b2 f1 f3
  go_enter Tryz.func176,Tryz.ntmps176
  go_wp2_with fail
  generalize w.alloc (.cells #[.int .i64 0,.slice none 0 0,.int .i64 0,.int .i64 0,.int .i64 0,.slice none 0 0] 34)=W0 at *
  generalize hB:w.heap.size=B at *
  have HB:=Lib.hid hB
  clear hB
  refine (kLj W0 p 16 l s HR0.out).mono ?_
  rintro e w1 ⟨rfl,hR1,hu1⟩
  have hz:=hu1.at HNew.out (by have:=HpB.out;simp;omega)
  obtain⟨z0,z1,z2,z3,z4,z5⟩:=kAx hz
  obtain⟨y0,y1,y2,y3,y4,y5⟩:=kDk hz
  obtain⟨⟨v1,hb1,-,-⟩,-,-⟩:=id hR1
  have b2:=kAz hb1 2
  unfold rdC at b2
  simp only [List.getElem?_toArray,List.getElem?_cons_zero,List.getElem?_cons_succ] at b2
  have HR1:=Lib.hid hR1
  have HU1:=Lib.hid hu1
  have HZ:=Lib.hid hz
  clear hR1 hu1 hb1 hz b3
  go_wp2_with fail
  obtain⟨rfl,rfl⟩:=HV.out
  have hst:=kEz HZ.out (.int .i64 0) (.slice none 0 0) (.int .i64 0) (.int .i64 0) (.int .i64 0) (.slice none 0 0)
  obtain⟨q0,q1,q2,q3,q4,q5⟩:=kAx hst
  exact bodyPost_ret (v:=.agg #[.int .i64 0,.slice none 0 0,.int .i64 0,.int .i64 0,.int .i64 0,.slice none 0 0]) (by simp [results,Tryz.results176,go_sem,q0,q1,q2,q3,q4,q5]) rfl (rdpost_zero HB.out HpB.out (HU0.out.mono (by simp)) HU1.out HR1.out HZ.out (Adv.wrong hin 16) zero_same)
 ·have k6:((s.dp:Int)==256)=false:=by rw [beq_eq_false_iff_ne];omega
  by_cases h0:s.er=0
  ·have k3:((s.er:Int) != 0)=false:=by rw [bne,show ((s.er:Int)==0)=true by simp [h0]];rfl
   have HV:Hid (∃s2,of ⟨s.nx+1,s.er,s.dp+1⟩=some (n,s2)∧s'=⟨s2.nx,s2.er,s2.dp-1⟩):=Lib.hid (by
    unfold levelP at he
    simp only [if_neg h6,if_pos h0] at he
    cases hq:of ⟨s.nx+1,s.er,s.dp+1⟩ with
    | none=>rw [hq] at he;cases he
    | some r =>
     obtain⟨n2,s2⟩:=r
     rw [hq] at he
     simp at he
     obtain⟨rfl,rfl⟩:=he
     exact⟨s2,rfl,rfl⟩)
   have hn0:(0:Int)≤s.nx:=by omega
   have hn1:(s.nx:Int)≤1000000:=by omega
   have hd0:(0:Int)≤s.dp:=by omega
   have hd1:(s.dp:Int)≤256:=by omega
   have HK:=Lib.hid hk0
   have HD:Hid (s.dp≤255):=Lib.hid (by omega)
   have HC:=Lib.hid hr
   clear h6 h0 he hr hk0
   have hu0:Upto [] w (w.alloc (.cells #[.int .i64 0,.slice none 0 0,.int .i64 0,.int .i64 0,.int .i64 0,.slice none 0 0] 34)):=(Upto.refl [] w).alloc _
   have h0:=HR.out.ext hu0
   have HNew:=Lib.hid (kAq w (.cells #[.int .i64 0,.slice none 0 0,.int .i64 0,.int .i64 0,.int .i64 0,.slice none 0 0] 34))
   have HX0:=Lib.hid (HX.out.ext hu0)
   have HRd:=Lib.hid (HC.out.upto (hu0.mono (by simp)))
   have HpB:Hid (p<w.heap.size):=Lib.hid HR.out.lt
   obtain⟨⟨v,hb,-,-⟩,-,-⟩:=id h0
   have b1:=kAz hb 1
   have b2:=kAz hb 2
   have b3:=kAz hb 3
   have f1:=kDx hb 1
   have f3:=kDx hb 3
   unfold rdC at b1 b2 b3
   simp only [List.getElem?_toArray,List.getElem?_cons_zero,List.getElem?_cons_succ] at b1 b2 b3
   have HR0:=Lib.hid h0
   have HU0:=Lib.hid hu0
   clear h0 hb hu0
   go_enter Tryz.func176,Tryz.ntmps176
   go_wp2_with fail
   obtain⟨s2,he2,hs'⟩:=HV.out
   have h1:=HR0.out.step HK.out
   have h2:=h1.1.depth (s.dp+1)
   have hc1:(((s.dp+1:Nat)):Int)=(s.dp:Int)+1:=by omega
   have hsd:(kBx s).dp=s.dp:=rfl
   rw [hc1] at h2
   have hu1:=h1.2.trans_same h2.2
   have HU1:=Lib.hid hu1
   refine (HRd.out _ ⟨s.nx+1,s.er,s.dp+1⟩ n s2 hu1 h2.1 (by have:=HD.out;simp;omega) he2).mono ?_
   clear h1 h2 hu1 b1 b2 b3 f1 f3
   rintro e w2 ⟨vv,rfl,hn,hR2,hu2,ha⟩
   obtain⟨op,n1,n2,n3,so,nn,mm,l1,l2,l3,rfl⟩:=hn.six
   have had:=ha.dp
   simp only at had
   have hu3:Upto [] w2 (w2.alloc (.cells #[.int .i64 op,.slice n1 n2 n3,.int .i64 so,.int .i64 nn,.int .i64 mm,.slice l1 l2 l3] 34)):=(Upto.refl [] w2).alloc _
   have hR3:=hR2.ext hu3
   obtain⟨⟨v3,hb3,-,-⟩,-,-⟩:=id hR3
   have b3:=kAz hb3 3
   have f3:=kDx hb3 3
   unfold rdC at b3
   simp only [List.getElem?_toArray,List.getElem?_cons_zero,List.getElem?_cons_succ] at b3
   have hD:=hR3.depth (s2.dp-1)
   have hc2:(((s2.dp-1:Nat)):Int)=(s2.dp:Int)-1:=by omega
   rw [hc2] at hD
   have hsz:w.heap.size<w2.heap.size:=Nat.lt_of_lt_of_le (kAk HNew.out) (HU1.out.trans_same hu2).size
   have hz:=(hD.2.at (hu3.at ((HU1.out.trans_same hu2).at HNew.out (by have:=HpB.out;simp;omega)) (by simp)) (by have:=HpB.out;simp;omega))
   have hq:=hD.2.at (kAq w2 (.cells #[.int .i64 op,.slice n1 n2 n3,.int .i64 so,.int .i64 nn,.int .i64 mm,.slice l1 l2 l3] 34)) (by have:=HpB.out;simp;omega)
   obtain⟨z0,z1,z2,z3,z4,z5⟩:=kAx hz
   obtain⟨y0,y1,y2,y3,y4,y5⟩:=kDk hz
   obtain⟨x0,x1,x2,x3,x4,x5⟩:=kAx hq
   obtain⟨u0,u1,u2,u3,u4,u5⟩:=kDk hq
   have hd2:(0:Int)≤s2.dp:=by omega
   have hd3:(s2.dp:Int)≤256:=by have:=HD.out;omega
   have HZ:=Lib.hid hz
   have HD2:=Lib.hid hD
   have HN:=Lib.hid hn
   have HA:=Lib.hid ha
   have HU2:=Lib.hid (hu2.trans_ext hu3)
   have HDP:=Lib.hid had
   clear hz hq hD hb3 hR3 hu3 hn ha hu2 hR2 had hc1 hc2 hsd hsz
   go_wp2_with fail
   have hst:=kEz HZ.out (.int .i64 op) (.slice n1 n2 n3) (.int .i64 so) (.int .i64 nn) (.int .i64 mm) (.slice l1 l2 l3)
   obtain⟨q0,q1,q2,q3,q4,q5⟩:=kAx hst
   exact bodyPost_ret (v:=.agg #[.int .i64 op,.slice n1 n2 n3,.int .i64 so,.int .i64 nn,.int .i64 mm,.slice l1 l2 l3]) (by simp [results,Tryz.results176,go_sem,q0,q1,q2,q3,q4,q5]) rfl (rdpost_fin rfl HpB.out ((HU0.out.mono (by simp)).trans_same HU1.out) (Nat.lt_of_lt_of_le (kAk HNew.out) HU1.out.size) (HU2.out.trans_same HD2.out.2) (by rw [hs'];exact HD2.out.1) HZ.out (by
    have h1:=HA.out.le
    have h2:=HA.out.lt
    have h3:=HDP.out
    rw [hs']
    exact⟨by simp at h1 ⊢;omega,h2,by simp;omega⟩) ((HN.out.ext ((Upto.refl [] w2).alloc _)).upto HD2.out.2 (fun b hb _=>by have h1:=HU1.out.size;have h2:=kAk HNew.out;have h3:=HpB.out;unfold New at hb;simp;omega)))
  ·have k3:((s.er:Int) != 0)=true:=by rw [bne,show ((s.er:Int)==0)=false by rw [beq_eq_false_iff_ne];omega];rfl
   have HV:Hid (n=.zero∧s'=s):=Lib.hid (by
    unfold levelP at he
    simp only [if_neg h6,if_neg h0] at he
    cases he
    exact⟨rfl,rfl⟩)
   have HC:=Lib.hid hr
   clear h6 h0 he hr hk
   have hu0:Upto [] w (w.alloc (.cells #[.int .i64 0,.slice none 0 0,.int .i64 0,.int .i64 0,.int .i64 0,.slice none 0 0] 34)):=(Upto.refl [] w).alloc _
   have h0:=HR.out.ext hu0
   have HNew:=Lib.hid (kAq w (.cells #[.int .i64 0,.slice none 0 0,.int .i64 0,.int .i64 0,.int .i64 0,.slice none 0 0] 34))
   have HX0:=Lib.hid (HX.out.ext hu0)
   have HRd:=Lib.hid (HC.out.upto (hu0.mono (by simp)))
   have HpB:Hid (p<w.heap.size):=Lib.hid HR.out.lt
   obtain⟨⟨v,hb,-,-⟩,-,-⟩:=id h0
   have b1:=kAz hb 1
   have b2:=kAz hb 2
   have b3:=kAz hb 3
   have f1:=kDx hb 1
   have f3:=kDx hb 3
   unfold rdC at b1 b2 b3
   simp only [List.getElem?_toArray,List.getElem?_cons_zero,List.getElem?_cons_succ] at b1 b2 b3
   have HR0:=Lib.hid h0
   have HU0:=Lib.hid hu0
   clear h0 hb hu0
   have hz:=HNew.out
   obtain⟨z0,z1,z2,z3,z4,z5⟩:=kAx hz
   obtain⟨y0,y1,y2,y3,y4,y5⟩:=kDk hz
   clear hz
   go_enter Tryz.func176,Tryz.ntmps176
   go_wp2_with fail
   generalize w.alloc (.cells #[.int .i64 0,.slice none 0 0,.int .i64 0,.int .i64 0,.int .i64 0,.slice none 0 0] 34)=W0 at *
   generalize hB:w.heap.size=B at *
   have HB:=Lib.hid hB
   clear hB
   obtain⟨rfl,rfl⟩:=HV.out
   exact bodyPost_ret (v:=.agg #[.int .i64 0,.slice none 0 0,.int .i64 0,.int .i64 0,.int .i64 0,.slice none 0 0]) (by simp [results,Tryz.results176,go_sem,z0,z1,z2,z3,z4,z5]) rfl ⟨_,rfl,NdV.zero _ _,HR0.out,HU0.out.mono (by simp),Adv.refl hin⟩
def nxOf (w:World) (p:Nat):Nat:=match w.cell? ⟨p,1,none⟩ with
 | some (.int _ x)=>x.toNat
 | _=>0
theorem RdAt.nx {w:World} {p:Nat} {l:List Tok} {s:PS} (h:RdAt w p l s):nxOf w p=s.nx:=by
 obtain⟨⟨v,hb,-,-⟩,-,-⟩:=h
 unfold nxOf
 rw [kAz hb 1]
 simp [rdC]
def Lo (w:World) (B Bn:Nat) (b:Nat):Prop:=New w b∧b≠B∧b≠Bn
def LeftI (w:World) (p B Bn:Nat) (l:List Tok) (x:List UInt8) (op:Int) (of:Rd) (n:Nd) (s s':PS) (wr:World):Prop :=
 ∃k m t,kIq l x op of k m t=some (n,s')∧RdAt wr p l t∧Upto [p] w wr∧Adv l s t∧wr.heap[B]?=some (.cells #[.int .i64 0,.slice none 0 0,.int .i64 0,.int .i64 0,.int .i64 0,.slice none 0 0] 34 (0,0)) ∧
  ∃(oa:Int) (na1:Option Addr) (na2 na3:Nat) (sa ma qa:Int) (la1:Option Addr) (la2 la3:Nat),wr.heap[Bn]?=some (.cells #[.int .i64 oa,.slice na1 na2 na3,.int .i64 sa,.int .i64 ma,.int .i64 qa,.slice la1 la2 la3] 34 (0,0))∧NdV wr (Lo w B Bn) m (.agg #[.int .i64 oa,.slice na1 na2 na3,.int .i64 sa,.int .i64 ma,.int .i64 qa,.slice la1 la2 la3])
theorem LeftI.next {w w4:World} {p B Bn:Nat} {l:List Tok} {x:List UInt8} {op:Int} {of:Rd} {n m m2:Nd} {s s' t2:PS} {k:Nat} {a0 a1 a2 a3 a4 a5 b0 b1 b2 b3 b4 b5:Value}
  (hB:w.heap.size=B) (hp:p<B) (hBn:B<Bn) (hu:Upto [p] w w4) (hR:RdAt w4 p l t2) (hz:w4.heap[B]?=some (.cells #[.int .i64 0,.slice none 0 0,.int .i64 0,.int .i64 0,.int .i64 0,.slice none 0 0] 34 (0,0))) {T:TypeId} {x0 x2 x3 x4:Int} {x1 x5:Value} (h1:∀x,x1≠.string x) (h5:∀x,x5≠.string x)
  (hn:w4.heap[Bn]?=some (.cells #[.int .i64 x0,x1,.int .i64 x2,.int .i64 x3,.int .i64 x4,x5] 34 (0,0)))
  (hm:NdV w4 (Lo w B Bn) m (.agg #[a0,a1,a2,a3,a4,a5])) (hm2:NdV w4 (Lo w B Bn) m2 (.agg #[b0,b1,b2,b3,b4,b5])) (hl:kIq l x op of k (.mk op [] 0 0 0 [m,m2]) t2=some (n,s')) (ha:Adv l s t2) :
  LeftI w p B Bn l x op of n s s' ((((((((w4.alloc (.cells #[a0,a1,a2,a3,a4,a5,b0,b1,b2,b3,b4,b5] T)).setCell ⟨Bn,0,none⟩ (.int .i64 op)).setCell ⟨Bn,1,none⟩ (.slice none 0 0)).setCell ⟨Bn,2,none⟩ (.int .i64 0)).setCell ⟨Bn,3,none⟩ (.int .i64 0)).setCell ⟨Bn,4,none⟩ (.int .i64 0)).setCell ⟨Bn,5,none⟩ (.slice (some ⟨w4.heap.size,0,none⟩) 2 2)))∧nxOf ((((((((w4.alloc (.cells #[a0,a1,a2,a3,a4,a5,b0,b1,b2,b3,b4,b5] T)).setCell ⟨Bn,0,none⟩ (.int .i64 op)).setCell ⟨Bn,1,none⟩ (.slice none 0 0)).setCell ⟨Bn,2,none⟩ (.int .i64 0)).setCell ⟨Bn,3,none⟩ (.int .i64 0)).setCell ⟨Bn,4,none⟩ (.int .i64 0)).setCell ⟨Bn,5,none⟩ (.slice (some ⟨w4.heap.size,0,none⟩) 2 2))) p=t2.nx:=by
 have hua:Upto [] w4 (w4.alloc (.cells #[a0,a1,a2,a3,a4,a5,b0,b1,b2,b3,b4,b5] T)):=(Upto.refl [] w4).alloc _
 have hlt:=kAk hn
 have hnew:=kAq w4 (.cells #[a0,a1,a2,a3,a4,a5,b0,b1,b2,b3,b4,b5] T)
 have hg:Lo w B Bn w4.heap.size:=⟨hu.size,by omega,by omega⟩
 have htwo:=NdV.two (w:=w4.alloc (.cells #[a0,a1,a2,a3,a4,a5,b0,b1,b2,b3,b4,b5] T)) (P:=Lo w B Bn) (op:=op) (so:=0) (names:=[]) SlP.nil (hm.ext hua) (hm2.ext hua) hg hnew
 have hnA:=hua.at hn (by simp)
 have hst:=nd_self (w4.alloc (.cells #[a0,a1,a2,a3,a4,a5,b0,b1,b2,b3,b4,b5] T)) Bn (.int .i64 op) (.slice none 0 0) (.int .i64 0) (.int .i64 0) (.int .i64 0) (.slice (some ⟨w4.heap.size,0,none⟩) 2 2)
 have hbn:=kEz hnA (.int .i64 op) (.slice none 0 0) (.int .i64 0) (.int .i64 0) (.int .i64 0) (.slice (some ⟨w4.heap.size,0,none⟩) 2 2)
 have hRF:=(hR.ext hua).other hnA (kPz h1 h5) hst (by omega)
 refine⟨⟨k,_,t2,hl,hRF,nd_up (hu.trans_ext hua) (Or.inr (by omega)) ..,ha,hst.at (hua.at hz (by simp)) (by simp;omega),op,none,0,0,0,0,0,_,2,2,hbn,?_⟩,hRF.nx⟩
 exact htwo.upto hst (fun b hb _=>by simp;exact hb.2.2)
theorem rdpost_lo {w w2:World} {p B:Nat} {l:List Tok} {s s':PS} {n:Nd} {P:Nat→Prop} (hB:w.heap.size=B) (hp:p<B) (hu:Upto [p] w w2) (hR:RdAt w2 p l s') {T:TypeId}
  (hz:w2.heap[B]?=some (.cells #[.int .i64 0,.slice none 0 0,.int .i64 0,.int .i64 0,.int .i64 0,.slice none 0 0] T (0,0))) (ha:Adv l s s') {a b c d e f:Value} (hn:NdV w2 P n (.agg #[a,b,c,d,e,f])) (hP:∀b,P b→IsC w2 b→New w b∧b≠B) :
  kMk w p l s n s' (.returned (.agg #[a,b,c,d,e,f])) ((((((w2.setCell ⟨B,0,none⟩ a).setCell ⟨B,1,none⟩ b).setCell ⟨B,2,none⟩ c).setCell ⟨B,3,none⟩ d).setCell ⟨B,4,none⟩ e).setCell ⟨B,5,none⟩ f):=by
 have hst:=nd_self w2 B a b c d e f
 exact⟨_,rfl,(hn.mono hP).upto hst (fun b hb _=>by simpa using hb.2) |>.mono fun b hb _=>hb.1,hR.other hz (kPz (by simp) (by simp)) hst (by omega),nd_up hu (Or.inr (by omega)) ..,ha⟩
theorem leftC_calls (w:World) (p:Nat) (l:List Tok) (s s':PS) (n:Nd) (x:List UInt8) (op:Int) (k:FuncId) (a:Value) (of:Rd) (hx:Cx w p l) (h:RdAt w p l s) (hd:s.dp≤256)
  (hk:∀args w,(callFunc k args).run Tryz.prog w=.ok (.enter k args) w) (hr:Rdr w p l k #[a] of) (he:leftP l x op of s=some (n,s')) :
  Calls Tryz.prog 91 #[.pointer (some ⟨p,0,none⟩),.string ⟨x.toArray⟩,.int .i64 op,.func (.func k) #[] #[a]] w (kMk w p l s n s'):=by
 have HF:Hid (Fin l):=Lib.hid h.fin
 have HX:=Lib.hid hx
 have HpB:Hid (p<w.heap.size):=Lib.hid h.lt
 have HV:Hid (∃m t,of s=some (m,t)∧kIq l x op of (l.length+1) m t=some (n,s')):=Lib.hid (by
  unfold leftP at he
  cases hq:of s with
  | none=>rw [hq] at he;cases he
  | some r=>obtain⟨m,t⟩:=r;rw [hq] at he;exact⟨m,t,rfl,he⟩)
 have hu0:Upto [] w (w.alloc (.cells #[.int .i64 0,.slice none 0 0,.int .i64 0,.int .i64 0,.int .i64 0,.slice none 0 0] 34)):=(Upto.refl [] w).alloc _
 have HU0:=Lib.hid hu0
 have HR0:=Lib.hid (h.ext hu0)
 have HNew:=Lib.hid (kAq w (.cells #[.int .i64 0,.slice none 0 0,.int .i64 0,.int .i64 0,.int .i64 0,.slice none 0 0] 34))
 have HRd:=Lib.hid hr
 clear hx h he hu0 hr
 go_enter Tryz.func91,Tryz.ntmps91
 go_wp2_with fail
 obtain⟨m,t,he1,he2⟩:=HV.out
 refine (HRd.out _ s m t (HU0.out.mono (by simp)) HR0.out hd he1).mono ?_
 rintro e w2 ⟨vv,rfl,hn,hR2,hu2,ha⟩
 obtain⟨oa,na1,na2,na3,sa,ma,qa,la1,la2,la3,rfl⟩:=hn.six
 have HN:=Lib.hid hn
 have HR2:=Lib.hid hR2
 have HU2:=Lib.hid hu2
 have HA:=Lib.hid ha
 clear hn hR2 hu2 ha
 go_wp2_with fail
 have hsz:w.heap.size<w2.heap.size:=Nat.lt_of_lt_of_le (kAk HNew.out) HU2.out.size
 have HI0:Hid (LeftI w p w.heap.size w2.heap.size l x op of n s s' (w2.alloc (.cells #[.int .i64 oa,.slice na1 na2 na3,.int .i64 sa,.int .i64 ma,.int .i64 qa,.slice la1 la2 la3] 34))):=Lib.hid (by
  have hua:Upto [] w2 (w2.alloc (.cells #[.int .i64 oa,.slice na1 na2 na3,.int .i64 sa,.int .i64 ma,.int .i64 qa,.slice la1 la2 la3] 34)):=(Upto.refl [] w2).alloc _
  refine⟨_,m,t,he2,HR2.out.ext hua,((HU0.out.mono (by simp)).trans_same HU2.out).trans_ext hua,HA.out,hua.at (HU2.out.at HNew.out (by have:=HpB.out;simp;omega)) (by simp),oa,na1,na2,na3,sa,ma,qa,la1,la2,la3,kAq _ _,?_⟩
  refine (HN.out.mono fun b hb hl=>?_).ext hua
  have h1:w.heap.size<b:=Nat.lt_of_lt_of_le (kAk HNew.out) hb
  have h2:=hl.lt
  exact⟨Nat.le_of_lt h1,by omega,by omega⟩)
 generalize hBn:w2.heap.size=Bn at *
 generalize hB:w.heap.size=B at *
 have HBn:=Lib.hid hsz
 have HB:=Lib.hid hB
 clear hsz hB hBn he1 he2
 go_loopw [] (fun wr=>Hid (LeftI w p B Bn l x op of n s s' wr)) (fun wr=>l.length-nxOf wr p)
 case atStart=>exact HI0
 case round =>
  obtain⟨j,m3,t3,hl3,hR3,hu3,ha3,hz3,oa,na1,na2,na3,sa,ma,qa,la1,la2,la3,hn3,hm3⟩:=hrel.out
  have HI:=Lib.hid (And.intro hR3 (And.intro hu3 (And.intro ha3 (And.intro hz3 (And.intro hn3 hm3)))))
  have HC:=Lib.hid (kEj wr p l t3 x hR3 HX.out.len)
  have HNX:=Lib.hid hR3.nx
  have HNXI:=Lib.hid hR3.inb
  clear hrel HI0
  cases j with
  | zero=>unfold kIq at hl3;cases hl3
  | succ j =>
  unfold kIq at hl3
  cases hv:isF l x t3 with
  | true =>
   rw [hv] at HC hl3
   have HT:Hid ((kDz l x t3).2=kBx t3):=Lib.hid (by unfold kDz;rw [if_pos hv])
   have HV2:Hid (∃m4 t4,of (kBx t3)=some (m4,t4)∧kIq l x op of j (.mk op [] 0 0 0 [m3,m4]) t4=some (n,s')):=Lib.hid (by
    simp only [if_true] at hl3
    cases hq:of (kBx t3) with
    | none=>rw [hq] at hl3;cases hl3
    | some r=>obtain⟨m4,t4⟩:=r;rw [hq] at hl3;exact⟨m4,t4,rfl,hl3⟩)
   have HK:=Lib.hid (isF_kind hv)
   clear hR3 hu3 ha3 hz3 hn3 hm3 hl3 hv
   go_wp2_with fail
   refine HC.out.mono ?_
   rintro e w3 ⟨rfl,hR3,hu3⟩
   rw [HT.out] at hR3
   have hd3:Upto [] w3 w3.drew:=(Upto.refl [] w3).drew
   have hn3:=hd3.at (hu3.at HI.out.2.2.2.2.1 (by have:=HBn.out;have:=HpB.out;have:=HB.out;simp;omega)) (by simp)
   obtain⟨x0,x1,x2,x3,x4,x5⟩:=kAx hn3
   obtain⟨y0,y1,y2,y3,y4,y5⟩:=kDk hn3
   have HR3:=Lib.hid (hR3.ext hd3)
   have HU3:=Lib.hid (hu3.trans_ext hd3)
   have HN3:=Lib.hid hn3
   have hp2:Bn≠p:=by have:=HBn.out;have:=HpB.out;omega
   have HP2:=Lib.hid hp2
   clear hR3 hd3 hu3 hn3 hp2
   go_wp2_with fail
   go_region_with (
    obtain⟨m4,t4,he4,hl4⟩:=HV2.out
    refine (HRd.out _ (kBx t3) m4 t4 (HI.out.2.1.trans_same HU3.out) HR3.out (by have h1:=HI.out.2.2.1.dp;show t3.dp≤256;omega) he4).mono ?_
    rintro e w4 ⟨v4,rfl,hn4,hR4,hu4,ha4⟩
    obtain⟨ob,nb1,nb2,nb3,sb,mb,qb,lb1,lb2,lb3,rfl⟩:=hn4.six
    have hb4:=hu4.at HN3.out (by simpa using HP2.out)
    have hb5:=((Upto.refl [] w4).alloc (.cells #[.int .i64 oa,.slice na1 na2 na3,.int .i64 sa,.int .i64 ma,.int .i64 qa,.slice la1 la2 la3,.int .i64 ob,.slice nb1 nb2 nb3,.int .i64 sb,.int .i64 mb,.int .i64 qb,.slice lb1 lb2 lb3] 34)).at hb4 (by simp)
    obtain⟨g0,g1,g2,g3,g4,g5⟩:=kAx hb4
    obtain⟨h0,h1,h2,h3,h4,h5⟩:=kDk hb4
    obtain⟨z0,z1,z2,z3,z4,z5⟩:=kAx hb5
    obtain⟨u0,u1,u2,u3,u4,u5⟩:=kDk hb5
    have HN4:=Lib.hid hn4
    have HR4:=Lib.hid hR4
    have HU4:=Lib.hid hu4
    have HA4:=Lib.hid ha4
    have HB4:=Lib.hid hb4
    have HL4:=Lib.hid hl4
    clear hn4 hR4 hu4 ha4 hb4 hb5 hl4 he4)
   all_goals (
    have q1:=HI.out
    have q2:=HU3.out
    have q3:=HU4.out
    have q4:=HB.out
    have q5:=HpB.out
    have q6:=HBn.out
    have q7:=HN3.out
    have q8:=q2.size
    have q9:=q1.2.1.size
    have hBlt:=kAk q1.2.2.2.1
    have hBnlt:=kAk q7
    have HQ:=(LeftI.next (T:=34) q4 (by omega) q6 ((q1.2.1.trans_same q2).trans_same q3) HR4.out (q3.at (q2.at q1.2.2.2.1 (by simp;omega)) (by simp;omega)) (by simp) (by simp) HB4.out
      ((q1.2.2.2.2.2.upto q2 (fun b hb _=>by have h1:=hb.1;unfold New at h1;simp;omega)).upto q3 (fun b hb _=>by have h1:=hb.1;unfold New at h1;simp;omega))
      (HN4.out.mono (fun b hb _=>⟨by unfold New at hb ⊢;omega,by unfold New at hb;omega,by unfold New at hb;omega⟩)) HL4.out (q1.2.2.1.trans ((Adv.step HF.out HNXI.out HK.out).trans HA4.out)))
    have e1:=HNX.out
    have e2:=HA4.out.le
    have e3:=HA4.out.lt
    have e4:(kBx t3).nx=t3.nx+1:=rfl
    exact⟨⟨_,_,_,_,_,_,_,_,_,Lib.hid HQ.1,rfl⟩,by rw [HQ.2,e1];omega⟩)
  | false =>
   rw [hv] at HC hl3
   have HT:Hid ((kDz l x t3).2=t3):=Lib.hid (by unfold kDz;rw [hv];rfl)
   simp at hl3
   obtain⟨rfl,rfl⟩:=hl3
   clear hR3 hu3 ha3 hz3 hn3 hm3 hv
   go_wp2_with fail
   refine HC.out.mono ?_
   rintro e w3 ⟨rfl,hR3,hu3⟩
   rw [HT.out] at hR3
   have hn3:=hu3.at HI.out.2.2.2.2.1 (by have:=HBn.out;have:=HpB.out;have:=HB.out;simp;omega)
   have hz3:=hu3.at HI.out.2.2.2.1 (by have:=HBn.out;have:=HpB.out;have:=HB.out;simp;omega)
   obtain⟨x0,x1,x2,x3,x4,x5⟩:=kAx hn3
   obtain⟨y0,y1,y2,y3,y4,y5⟩:=kDk hn3
   obtain⟨z0,z1,z2,z3,z4,z5⟩:=kAx hz3
   obtain⟨u0,u1,u2,u3,u4,u5⟩:=kDk hz3
   have HZ3:=Lib.hid hz3
   have HR3:=Lib.hid hR3
   have HU3:=Lib.hid hu3
   clear hR3 hu3 hn3 hz3
   go_wp2_with fail
   have hst:=kEz HZ3.out (.int .i64 oa) (.slice na1 na2 na3) (.int .i64 sa) (.int .i64 ma) (.int .i64 qa) (.slice la1 la2 la3)
   obtain⟨q0,q1,q2,q3,q4,q5⟩:=kAx hst
   exact bodyPost_ret (v:=.agg #[.int .i64 oa,.slice na1 na2 na3,.int .i64 sa,.int .i64 ma,.int .i64 qa,.slice la1 la2 la3]) (by simp [results,Tryz.results91,go_sem,q0,q1,q2,q3,q4,q5]) rfl (rdpost_lo HB.out (by have:=HB.out;have:=HpB.out;omega) (HI.out.2.1.trans_same HU3.out) HR3.out HZ3.out HI.out.2.2.1 (HI.out.2.2.2.2.2.upto HU3.out (fun b hb _=>by have h1:=hb.1;unfold New at h1;have:=HpB.out;have:=HB.out;simp;omega)) (fun b hb _=>⟨hb.1,hb.2.1⟩))
theorem leftB_calls (w:World) (p:Nat) (l:List Tok) (s s':PS) (n:Nd) (x:List UInt8) (op:Int) (k:FuncId) (a:Value) (of:Rd) (hx:Cx w p l) (h:RdAt w p l s) (hd:s.dp≤256)
  (hk:∀args w,(callFunc k args).run Tryz.prog w=.ok (.enter k args) w) (hr:Rdr w p l k #[a] of) (he:leftP l x op of s=some (n,s')) :
  Calls Tryz.prog 91 #[.pointer (some ⟨p,0,none⟩),.string ⟨x.toArray⟩,.int .i64 op,.func (.func k) #[a] #[]] w (kMk w p l s n s'):=by
 have HF:Hid (Fin l):=Lib.hid h.fin
 have HX:=Lib.hid hx
 have HpB:Hid (p<w.heap.size):=Lib.hid h.lt
 have HV:Hid (∃m t,of s=some (m,t)∧kIq l x op of (l.length+1) m t=some (n,s')):=Lib.hid (by
  unfold leftP at he
  cases hq:of s with
  | none=>rw [hq] at he;cases he
  | some r=>obtain⟨m,t⟩:=r;rw [hq] at he;exact⟨m,t,rfl,he⟩)
 have hu0:Upto [] w (w.alloc (.cells #[.int .i64 0,.slice none 0 0,.int .i64 0,.int .i64 0,.int .i64 0,.slice none 0 0] 34)):=(Upto.refl [] w).alloc _
 have HU0:=Lib.hid hu0
 have HR0:=Lib.hid (h.ext hu0)
 have HNew:=Lib.hid (kAq w (.cells #[.int .i64 0,.slice none 0 0,.int .i64 0,.int .i64 0,.int .i64 0,.slice none 0 0] 34))
 have HRd:=Lib.hid hr
 clear hx h he hu0 hr
 go_enter Tryz.func91,Tryz.ntmps91
 go_wp2_with fail
 obtain⟨m,t,he1,he2⟩:=HV.out
 refine (HRd.out _ s m t (HU0.out.mono (by simp)) HR0.out hd he1).mono ?_
 rintro e w2 ⟨vv,rfl,hn,hR2,hu2,ha⟩
 obtain⟨oa,na1,na2,na3,sa,ma,qa,la1,la2,la3,rfl⟩:=hn.six
 have HN:=Lib.hid hn
 have HR2:=Lib.hid hR2
 have HU2:=Lib.hid hu2
 have HA:=Lib.hid ha
 clear hn hR2 hu2 ha
 go_wp2_with fail
 have hsz:w.heap.size<w2.heap.size:=Nat.lt_of_lt_of_le (kAk HNew.out) HU2.out.size
 have HI0:Hid (LeftI w p w.heap.size w2.heap.size l x op of n s s' (w2.alloc (.cells #[.int .i64 oa,.slice na1 na2 na3,.int .i64 sa,.int .i64 ma,.int .i64 qa,.slice la1 la2 la3] 34))):=Lib.hid (by
  have hua:Upto [] w2 (w2.alloc (.cells #[.int .i64 oa,.slice na1 na2 na3,.int .i64 sa,.int .i64 ma,.int .i64 qa,.slice la1 la2 la3] 34)):=(Upto.refl [] w2).alloc _
  refine⟨_,m,t,he2,HR2.out.ext hua,((HU0.out.mono (by simp)).trans_same HU2.out).trans_ext hua,HA.out,hua.at (HU2.out.at HNew.out (by have:=HpB.out;simp;omega)) (by simp),oa,na1,na2,na3,sa,ma,qa,la1,la2,la3,kAq _ _,?_⟩
  refine (HN.out.mono fun b hb hl=>?_).ext hua
  have h1:w.heap.size<b:=Nat.lt_of_lt_of_le (kAk HNew.out) hb
  have h2:=hl.lt
  exact⟨Nat.le_of_lt h1,by omega,by omega⟩)
 generalize hBn:w2.heap.size=Bn at *
 generalize hB:w.heap.size=B at *
 have HBn:=Lib.hid hsz
 have HB:=Lib.hid hB
 clear hsz hB hBn he1 he2
 go_loopw [] (fun wr=>Hid (LeftI w p B Bn l x op of n s s' wr)) (fun wr=>l.length-nxOf wr p)
 case atStart=>exact HI0
 case round =>
  obtain⟨j,m3,t3,hl3,hR3,hu3,ha3,hz3,oa,na1,na2,na3,sa,ma,qa,la1,la2,la3,hn3,hm3⟩:=hrel.out
  have HI:=Lib.hid (And.intro hR3 (And.intro hu3 (And.intro ha3 (And.intro hz3 (And.intro hn3 hm3)))))
  have HC:=Lib.hid (kEj wr p l t3 x hR3 HX.out.len)
  have HNX:=Lib.hid hR3.nx
  have HNXI:=Lib.hid hR3.inb
  clear hrel HI0
  cases j with
  | zero=>unfold kIq at hl3;cases hl3
  | succ j =>
  unfold kIq at hl3
  cases hv:isF l x t3 with
  | true =>
   rw [hv] at HC hl3
   have HT:Hid ((kDz l x t3).2=kBx t3):=Lib.hid (by unfold kDz;rw [if_pos hv])
   have HV2:Hid (∃m4 t4,of (kBx t3)=some (m4,t4)∧kIq l x op of j (.mk op [] 0 0 0 [m3,m4]) t4=some (n,s')):=Lib.hid (by
    simp only [if_true] at hl3
    cases hq:of (kBx t3) with
    | none=>rw [hq] at hl3;cases hl3
    | some r=>obtain⟨m4,t4⟩:=r;rw [hq] at hl3;exact⟨m4,t4,rfl,hl3⟩)
   have HK:=Lib.hid (isF_kind hv)
   clear hR3 hu3 ha3 hz3 hn3 hm3 hl3 hv
   go_wp2_with fail
   refine HC.out.mono ?_
   rintro e w3 ⟨rfl,hR3,hu3⟩
   rw [HT.out] at hR3
   have hd3:Upto [] w3 w3.drew:=(Upto.refl [] w3).drew
   have hn3:=hd3.at (hu3.at HI.out.2.2.2.2.1 (by have:=HBn.out;have:=HpB.out;have:=HB.out;simp;omega)) (by simp)
   obtain⟨x0,x1,x2,x3,x4,x5⟩:=kAx hn3
   obtain⟨y0,y1,y2,y3,y4,y5⟩:=kDk hn3
   have HR3:=Lib.hid (hR3.ext hd3)
   have HU3:=Lib.hid (hu3.trans_ext hd3)
   have HN3:=Lib.hid hn3
   have hp2:Bn≠p:=by have:=HBn.out;have:=HpB.out;omega
   have HP2:=Lib.hid hp2
   clear hR3 hd3 hu3 hn3 hp2
   go_wp2_with fail
   go_region_with (
    obtain⟨m4,t4,he4,hl4⟩:=HV2.out
    refine (HRd.out _ (kBx t3) m4 t4 (HI.out.2.1.trans_same HU3.out) HR3.out (by have h1:=HI.out.2.2.1.dp;show t3.dp≤256;omega) he4).mono ?_
    rintro e w4 ⟨v4,rfl,hn4,hR4,hu4,ha4⟩
    obtain⟨ob,nb1,nb2,nb3,sb,mb,qb,lb1,lb2,lb3,rfl⟩:=hn4.six
    have hb4:=hu4.at HN3.out (by simpa using HP2.out)
    have hb5:=((Upto.refl [] w4).alloc (.cells #[.int .i64 oa,.slice na1 na2 na3,.int .i64 sa,.int .i64 ma,.int .i64 qa,.slice la1 la2 la3,.int .i64 ob,.slice nb1 nb2 nb3,.int .i64 sb,.int .i64 mb,.int .i64 qb,.slice lb1 lb2 lb3] 34)).at hb4 (by simp)
    obtain⟨g0,g1,g2,g3,g4,g5⟩:=kAx hb4
    obtain⟨h0,h1,h2,h3,h4,h5⟩:=kDk hb4
    obtain⟨z0,z1,z2,z3,z4,z5⟩:=kAx hb5
    obtain⟨u0,u1,u2,u3,u4,u5⟩:=kDk hb5
    have HN4:=Lib.hid hn4
    have HR4:=Lib.hid hR4
    have HU4:=Lib.hid hu4
    have HA4:=Lib.hid ha4
    have HB4:=Lib.hid hb4
    have HL4:=Lib.hid hl4
    clear hn4 hR4 hu4 ha4 hb4 hb5 hl4 he4)
   all_goals (
    have q1:=HI.out
    have q2:=HU3.out
    have q3:=HU4.out
    have q4:=HB.out
    have q5:=HpB.out
    have q6:=HBn.out
    have q7:=HN3.out
    have q8:=q2.size
    have q9:=q1.2.1.size
    have hBlt:=kAk q1.2.2.2.1
    have hBnlt:=kAk q7
    have HQ:=(LeftI.next (T:=34) q4 (by omega) q6 ((q1.2.1.trans_same q2).trans_same q3) HR4.out (q3.at (q2.at q1.2.2.2.1 (by simp;omega)) (by simp;omega)) (by simp) (by simp) HB4.out
      ((q1.2.2.2.2.2.upto q2 (fun b hb _=>by have h1:=hb.1;unfold New at h1;simp;omega)).upto q3 (fun b hb _=>by have h1:=hb.1;unfold New at h1;simp;omega))
      (HN4.out.mono (fun b hb _=>⟨by unfold New at hb ⊢;omega,by unfold New at hb;omega,by unfold New at hb;omega⟩)) HL4.out (q1.2.2.1.trans ((Adv.step HF.out HNXI.out HK.out).trans HA4.out)))
    have e1:=HNX.out
    have e2:=HA4.out.le
    have e3:=HA4.out.lt
    have e4:(kBx t3).nx=t3.nx+1:=rfl
    exact⟨⟨_,_,_,_,_,_,_,_,_,Lib.hid HQ.1,rfl⟩,by rw [HQ.2,e1];omega⟩)
  | false =>
   rw [hv] at HC hl3
   have HT:Hid ((kDz l x t3).2=t3):=Lib.hid (by unfold kDz;rw [hv];rfl)
   simp at hl3
   obtain⟨rfl,rfl⟩:=hl3
   clear hR3 hu3 ha3 hz3 hn3 hm3 hv
   go_wp2_with fail
   refine HC.out.mono ?_
   rintro e w3 ⟨rfl,hR3,hu3⟩
   rw [HT.out] at hR3
   have hn3:=hu3.at HI.out.2.2.2.2.1 (by have:=HBn.out;have:=HpB.out;have:=HB.out;simp;omega)
   have hz3:=hu3.at HI.out.2.2.2.1 (by have:=HBn.out;have:=HpB.out;have:=HB.out;simp;omega)
   obtain⟨x0,x1,x2,x3,x4,x5⟩:=kAx hn3
   obtain⟨y0,y1,y2,y3,y4,y5⟩:=kDk hn3
   obtain⟨z0,z1,z2,z3,z4,z5⟩:=kAx hz3
   obtain⟨u0,u1,u2,u3,u4,u5⟩:=kDk hz3
   have HZ3:=Lib.hid hz3
   have HR3:=Lib.hid hR3
   have HU3:=Lib.hid hu3
   clear hR3 hu3 hn3 hz3
   go_wp2_with fail
   have hst:=kEz HZ3.out (.int .i64 oa) (.slice na1 na2 na3) (.int .i64 sa) (.int .i64 ma) (.int .i64 qa) (.slice la1 la2 la3)
   obtain⟨q0,q1,q2,q3,q4,q5⟩:=kAx hst
   exact bodyPost_ret (v:=.agg #[.int .i64 oa,.slice na1 na2 na3,.int .i64 sa,.int .i64 ma,.int .i64 qa,.slice la1 la2 la3]) (by simp [results,Tryz.results91,go_sem,q0,q1,q2,q3,q4,q5]) rfl (rdpost_lo HB.out (by have:=HB.out;have:=HpB.out;omega) (HI.out.2.1.trans_same HU3.out) HR3.out HZ3.out HI.out.2.2.1 (HI.out.2.2.2.2.2.upto HU3.out (fun b hb _=>by have h1:=hb.1;unfold New at h1;have:=HpB.out;have:=HB.out;simp;omega)) (fun b hb _=>⟨hb.1,hb.2.1⟩))
theorem kEx {w w2:World} {p B:Nat} {l:List Tok} {s s':PS} {n:Nd} {P:Nat→Prop} (hB:w.heap.size≤B) (hp:p<B) (hu:Upto [p] w w2) (hR:RdAt w2 p l s') {T:TypeId}
  (hz:w2.heap[B]?=some (.cells #[.int .i64 0,.slice none 0 0,.int .i64 0,.int .i64 0,.int .i64 0,.slice none 0 0] T (0,0))) (ha:Adv l s s') {a b c d e f:Value} (hn:NdV w2 P n (.agg #[a,b,c,d,e,f])) (hP:∀b,P b→IsC w2 b→New w b∧b≠B) :
  kMk w p l s n s' (.returned (.agg #[a,b,c,d,e,f])) ((((((w2.setCell ⟨B,0,none⟩ a).setCell ⟨B,1,none⟩ b).setCell ⟨B,2,none⟩ c).setCell ⟨B,3,none⟩ d).setCell ⟨B,4,none⟩ e).setCell ⟨B,5,none⟩ f):=by
 have hst:=nd_self w2 B a b c d e f
 exact⟨_,rfl,(hn.mono hP).upto hst (fun b hb _=>by simpa using hb.2) |>.mono fun b hb _=>hb.1,hR.other hz (kPz (by simp) (by simp)) hst (by omega),nd_up hu (Or.inr hB) ..,ha⟩
theorem ors1_calls (w:World) (p:Nat) (l:List Tok) (s s':PS) (n:Nd) (Br:Nat) (of:Rd) (hx:Cx w p l) (h:RdAt w p l s) (hd:s.dp≤256) (hb:w.heap[Br]?=some (.cells #[.pointer (some ⟨p,0,none⟩)] 88 (0,0))) (hop:Rdr w p l 147 #[.pointer (some ⟨p,0,none⟩)] of) (he:leftP l [97,110,100] 12 of s=some (n,s')) :
  Calls Tryz.prog 146 #[.pointer (some ⟨Br,0,none⟩)] w (kMk w p l s n s'):=by
 have HpB:Hid (p<w.heap.size):=Lib.hid h.lt
 have hu0:Upto [] w (w.alloc (.cells #[.int .i64 0,.slice none 0 0,.int .i64 0,.int .i64 0,.int .i64 0,.slice none 0 0] 34)):=(Upto.refl [] w).alloc _
 have HR0:=Lib.hid (h.ext hu0)
 have HX0:=Lib.hid (hx.ext hu0)
 have HU0:Hid (Upto [p] w (w.alloc (.cells #[.int .i64 0,.slice none 0 0,.int .i64 0,.int .i64 0,.int .i64 0,.slice none 0 0] 34))):=Lib.hid (hu0.mono (by simp))
 have HNew:Hid ((w.alloc (.cells #[.int .i64 0,.slice none 0 0,.int .i64 0,.int .i64 0,.int .i64 0,.slice none 0 0] 34)).heap[w.heap.size]?=some (.cells #[.int .i64 0,.slice none 0 0,.int .i64 0,.int .i64 0,.int .i64 0,.slice none 0 0] 34 (0,0))):=Lib.hid (kAq _ _)
 have hb0:=hu0.at hb (by simp)
 have c0:=kAz hb0 0
 simp only [List.getElem?_toArray,List.getElem?_cons_zero] at c0
 have HOP:=Lib.hid (hop.upto HU0.out)
 clear hx h hu0 hb hb0 hop
 go_enter Tryz.func146,Tryz.ntmps146
 go_wp2_with fail
 refine (leftB_calls _ p l s s' n [97,110,100] 12 147 _ of HX0.out HR0.out hd (kMq Tryz.func147 (by kernel_rfl) rfl) HOP.out he).mono ?_
 clear c0
 rintro e w2 ⟨vv,rfl,hn,hR2,hu2,ha⟩
 obtain⟨oa,na1,na2,na3,sa,ma,qa,la1,la2,la3,rfl⟩:=hn.six
 have hz:=hu2.at HNew.out (by have:=HpB.out;simp;omega)
 obtain⟨z0,z1,z2,z3,z4,z5⟩:=kAx hz
 obtain⟨y0,y1,y2,y3,y4,y5⟩:=kDk hz
 have HZ:=Lib.hid hz
 have HN:=Lib.hid hn
 have HR2:=Lib.hid hR2
 have HU2:=Lib.hid hu2
 have HA:=Lib.hid ha
 clear hn hR2 hu2 ha hz
 go_wp2_with fail
 have hst:=kEz HZ.out (.int .i64 oa) (.slice na1 na2 na3) (.int .i64 sa) (.int .i64 ma) (.int .i64 qa) (.slice la1 la2 la3)
 obtain⟨q0,q1,q2,q3,q4,q5⟩:=kAx hst
 exact bodyPost_ret (v:=.agg #[.int .i64 oa,.slice na1 na2 na3,.int .i64 sa,.int .i64 ma,.int .i64 qa,.slice la1 la2 la3]) (by simp [results,Tryz.results146,go_sem,q0,q1,q2,q3,q4,q5]) rfl (kEx (by omega) (by have:=HpB.out;omega) (HU0.out.trans_same HU2.out) HR2.out HZ.out HA.out HN.out (fun b hb _=>by have h1:=HU0.out.size;have h2:=kAk HNew.out;unfold New at hb ⊢;omega))
theorem ors_calls (w:World) (p:Nat) (l:List Tok) (s s':PS) (n:Nd) (of:Rd) (hx:Cx w p l) (h:RdAt w p l s) (hd:s.dp≤256) (hop:Rdr w p l 147 #[.pointer (some ⟨p,0,none⟩)] of) (he:orsP l of s=some (n,s')) :
  Calls Tryz.prog 124 #[.pointer (some ⟨p,0,none⟩)] w (kMk w p l s n s'):=by
 have HpB:Hid (p<w.heap.size):=Lib.hid h.lt
 have hu0:Upto [] w ((w.alloc (.cells #[.pointer (some ⟨p,0,none⟩)] 88)).alloc (.cells #[.int .i64 0,.slice none 0 0,.int .i64 0,.int .i64 0,.int .i64 0,.slice none 0 0] 34)):=((Upto.refl [] w).alloc _).alloc _
 have HR0:=Lib.hid (h.ext hu0)
 have HX0:=Lib.hid (hx.ext hu0)
 have HU0:Hid (Upto [p] w ((w.alloc (.cells #[.pointer (some ⟨p,0,none⟩)] 88)).alloc (.cells #[.int .i64 0,.slice none 0 0,.int .i64 0,.int .i64 0,.int .i64 0,.slice none 0 0] 34))):=Lib.hid (hu0.mono (by simp))
 have HNew:Hid (((w.alloc (.cells #[.pointer (some ⟨p,0,none⟩)] 88)).alloc (.cells #[.int .i64 0,.slice none 0 0,.int .i64 0,.int .i64 0,.int .i64 0,.slice none 0 0] 34)).heap[w.heap.size+1]?=some (.cells #[.int .i64 0,.slice none 0 0,.int .i64 0,.int .i64 0,.int .i64 0,.slice none 0 0] 34 (0,0))):=Lib.hid (kFz _ _ _)
 have hb0:((w.alloc (.cells #[.pointer (some ⟨p,0,none⟩)] 88)).alloc (.cells #[.int .i64 0,.slice none 0 0,.int .i64 0,.int .i64 0,.int .i64 0,.slice none 0 0] 34)).heap[w.heap.size]?=some (.cells #[.pointer (some ⟨p,0,none⟩)] 88 (0,0)):=kCx (kAq _ _) _
 have c0:=kAz hb0 0
 simp only [List.getElem?_toArray,List.getElem?_cons_zero] at c0
 have HB0:=Lib.hid hb0
 clear hb0
 have HOP:=Lib.hid (hop.upto HU0.out)
 have HO1:Hid (Rdr ((w.alloc (.cells #[.pointer (some ⟨p,0,none⟩)] 88)).alloc (.cells #[.int .i64 0,.slice none 0 0,.int .i64 0,.int .i64 0,.int .i64 0,.slice none 0 0] 34)) p l 146 #[.pointer (some ⟨w.heap.size,0,none⟩)] (leftP l [97,110,100] 12 of)):=Lib.hid (fun w1 s1 n1 s2 h1 h2 h3 h4 =>
  ors1_calls w1 p l s1 s2 n1 w.heap.size of (HX0.out.upto h1) h2 h3 (h1.at HB0.out (by have:=HpB.out;simp;omega)) (HOP.out.upto h1) h4)
 clear hx h hu0 hop
 go_enter Tryz.func124,Tryz.ntmps124
 go_wp2_with fail
 refine (leftC_calls _ p l s s' n [111,114] 13 146 _ _ HX0.out HR0.out hd (kMq Tryz.func146 (by kernel_rfl) rfl) HO1.out he).mono ?_
 clear c0
 rintro e w2 ⟨vv,rfl,hn,hR2,hu2,ha⟩
 obtain⟨oa,na1,na2,na3,sa,ma,qa,la1,la2,la3,rfl⟩:=hn.six
 have hz:=hu2.at HNew.out (by have:=HpB.out;simp;omega)
 obtain⟨z0,z1,z2,z3,z4,z5⟩:=kAx hz
 obtain⟨y0,y1,y2,y3,y4,y5⟩:=kDk hz
 have HZ:=Lib.hid hz
 have HN:=Lib.hid hn
 have HR2:=Lib.hid hR2
 have HU2:=Lib.hid hu2
 have HA:=Lib.hid ha
 clear hn hR2 hu2 ha hz
 go_wp2_with fail
 have hst:=kEz HZ.out (.int .i64 oa) (.slice na1 na2 na3) (.int .i64 sa) (.int .i64 ma) (.int .i64 qa) (.slice la1 la2 la3)
 obtain⟨q0,q1,q2,q3,q4,q5⟩:=kAx hst
 exact bodyPost_ret (v:=.agg #[.int .i64 oa,.slice na1 na2 na3,.int .i64 sa,.int .i64 ma,.int .i64 qa,.slice la1 la2 la3]) (by simp [results,Tryz.results124,go_sem,q0,q1,q2,q3,q4,q5]) rfl (kEx (by omega) (by have:=HpB.out;omega) (HU0.out.trans_same HU2.out) HR2.out HZ.out HA.out HN.out (fun b hb _=>by have h1:=HU0.out.size;have h2:=kAk HNew.out;unfold New at hb ⊢;omega))
theorem formula_calls (w:World) (p:Nat) (l:List Tok) (s s':PS) (n:Nd) (of:Rd) (hx:Cx w p l) (h:RdAt w p l s) (hd:s.dp≤256) (him:Rdr w p l 92 #[.pointer (some ⟨p,0,none⟩)] (kMj l of)) (he:kLx l of s=some (n,s')) :
  Calls Tryz.prog 58 #[.pointer (some ⟨p,0,none⟩)] w (kMk w p l s n s'):=by
 have HpB:Hid (p<w.heap.size):=Lib.hid h.lt
 have hu0:Upto [] w (w.alloc (.cells #[.int .i64 0,.slice none 0 0,.int .i64 0,.int .i64 0,.int .i64 0,.slice none 0 0] 34)):=(Upto.refl [] w).alloc _
 have HR0:=Lib.hid (h.ext hu0)
 have HX0:=Lib.hid (hx.ext hu0)
 have HU0:Hid (Upto [p] w (w.alloc (.cells #[.int .i64 0,.slice none 0 0,.int .i64 0,.int .i64 0,.int .i64 0,.slice none 0 0] 34))):=Lib.hid (hu0.mono (by simp))
 have HNew:Hid ((w.alloc (.cells #[.int .i64 0,.slice none 0 0,.int .i64 0,.int .i64 0,.int .i64 0,.slice none 0 0] 34)).heap[w.heap.size]?=some (.cells #[.int .i64 0,.slice none 0 0,.int .i64 0,.int .i64 0,.int .i64 0,.slice none 0 0] 34 (0,0))):=Lib.hid (kAq _ _)
 have HIM:=Lib.hid (him.upto HU0.out)
 clear hx h hu0 him
 go_enter Tryz.func58,Tryz.ntmps58
 go_wp2_with fail
 refine (leftB_calls _ p l s s' n [105,102,102] 15 92 _ _ HX0.out HR0.out hd (kMq Tryz.func92 (by kernel_rfl) rfl) HIM.out he).mono ?_
 rintro e w2 ⟨vv,rfl,hn,hR2,hu2,ha⟩
 obtain⟨oa,na1,na2,na3,sa,ma,qa,la1,la2,la3,rfl⟩:=hn.six
 have hz:=hu2.at HNew.out (by have:=HpB.out;simp;omega)
 obtain⟨z0,z1,z2,z3,z4,z5⟩:=kAx hz
 obtain⟨y0,y1,y2,y3,y4,y5⟩:=kDk hz
 have HZ:=Lib.hid hz
 have HN:=Lib.hid hn
 have HR2:=Lib.hid hR2
 have HU2:=Lib.hid hu2
 have HA:=Lib.hid ha
 clear hn hR2 hu2 ha hz
 go_wp2_with fail
 have hst:=kEz HZ.out (.int .i64 oa) (.slice na1 na2 na3) (.int .i64 sa) (.int .i64 ma) (.int .i64 qa) (.slice la1 la2 la3)
 obtain⟨q0,q1,q2,q3,q4,q5⟩:=kAx hst
 exact bodyPost_ret (v:=.agg #[.int .i64 oa,.slice na1 na2 na3,.int .i64 sa,.int .i64 ma,.int .i64 qa,.slice la1 la2 la3]) (by simp [results,Tryz.results58,go_sem,q0,q1,q2,q3,q4,q5]) rfl (kEx (by omega) (by have:=HpB.out;omega) (HU0.out.trans_same HU2.out) HR2.out HZ.out HA.out HN.out (fun b hb _=>by have h1:=HU0.out.size;have h2:=kAk HNew.out;unfold New at hb ⊢;omega))
theorem bind1_calls (w:World) (p:Nat) (l:List Tok) (s s':PS) (n:Nd) (op:Int) (Bo Br:Nat) (fm:Rd) (hx:Cx w p l) (h:RdAt w p l s) (hd:s.dp≤256) (hbo:w.heap[Bo]?=some (.cells #[.int .i64 op] 3 (0,0))) (hbr:w.heap[Br]?=some (.cells #[.pointer (some ⟨p,0,none⟩)] 88 (0,0))) (hbp:Bo≠p∧Br≠p) (hfm:Rdr w p l 58 #[.pointer (some ⟨p,0,none⟩)] fm) (he:(fun t=>(fm (kPj l [58] (kAj l (kBz l t).2).2)).map fun r=>(Nd.mk op [(kAj l (kBz l t).2).1] (kBz l t).1 0 0 [r.1],r.2)) s=some (n,s')) :
  Calls Tryz.prog 192 #[.pointer (some ⟨Bo,0,none⟩),.pointer (some ⟨Br,0,none⟩)] w (kMk w p l s n s'):=by
 have HpB:Hid (p<w.heap.size):=Lib.hid h.lt
 have hu0:Upto [] w (w.alloc (.cells #[.int .i64 0,.slice none 0 0,.int .i64 0,.int .i64 0,.int .i64 0,.slice none 0 0] 34)):=(Upto.refl [] w).alloc _
 have HR0:=Lib.hid (h.ext hu0)
 have HX0:=Lib.hid (hx.ext hu0)
 have HU0:Hid (Upto [p] w (w.alloc (.cells #[.int .i64 0,.slice none 0 0,.int .i64 0,.int .i64 0,.int .i64 0,.slice none 0 0] 34))):=Lib.hid (hu0.mono (by simp))
 have HNew:Hid ((w.alloc (.cells #[.int .i64 0,.slice none 0 0,.int .i64 0,.int .i64 0,.int .i64 0,.slice none 0 0] 34)).heap[w.heap.size]?=some (.cells #[.int .i64 0,.slice none 0 0,.int .i64 0,.int .i64 0,.int .i64 0,.slice none 0 0] 34 (0,0))):=Lib.hid (kAq _ _)
 have HFM:=Lib.hid (hfm.upto HU0.out)
 have HF:Hid (Fin l):=Lib.hid h.fin
 have hin:=h.inb
 have HBO:=Lib.hid (hu0.at hbo (by simp))
 have HBR:=Lib.hid (hu0.at hbr (by simp))
 have HNE:=Lib.hid hbp
 have HLT:=Lib.hid (And.intro (kAk hbo) (kAk hbr))
 have ha0:=(Upto.refl [] (w.alloc (.cells #[.int .i64 0,.slice none 0 0,.int .i64 0,.int .i64 0,.int .i64 0,.slice none 0 0] 34))).drew
 have ha1:=((Upto.refl [] (w.alloc (.cells #[.int .i64 0,.slice none 0 0,.int .i64 0,.int .i64 0,.int .i64 0,.slice none 0 0] 34))).alloc (.cells #[.int .i64 0,.slice none 0 0,.int .i64 0,.int .i64 0,.int .i64 0,.slice none 0 0] 34)).drew
 have o0:=kAz (ha0.at HBO.out (by simp)) 0
 have r0:=kAz (ha0.at HBR.out (by simp)) 0
 have o1:=kAz (ha1.at HBO.out (by simp)) 0
 have r1:=kAz (ha1.at HBR.out (by simp)) 0
 simp only [List.getElem?_toArray,List.getElem?_cons_zero] at o0 r0 o1 r1
 have HV:Hid (∃m t,fm (kPj l [58] (kAj l (kBz l s).2).2)=some (m,t)∧n=Nd.mk op [(kAj l (kBz l s).2).1] (kBz l s).1 0 0 [m]∧s'=t):=Lib.hid (by
  simp only at he
  cases hq:fm (kPj l [58] (kAj l (kBz l s).2).2) with
  | none=>rw [hq] at he;cases he
  | some r=>obtain⟨m,t⟩:=r;rw [hq] at he;simp at he;exact⟨m,t,rfl,he.1.symm,he.2.symm⟩)
 clear hx h he hu0 hbo hbr hbp hfm ha0 ha1
 go_enter Tryz.func192,Tryz.ntmps192
 go_wp2_with fail
 go_region_with (
  first
  | (refine (sort_calls (w.alloc (.cells #[.int .i64 0,.slice none 0 0,.int .i64 0,.int .i64 0,.int .i64 0,.slice none 0 0] 34)).drew p l s (HX0.out.ext (Upto.refl [] _).drew) (HR0.out.ext (Upto.refl [] _).drew)).mono ?_
     rintro e w2 ⟨rfl,hR2,hu2⟩
     have HU2:Hid (Upto [p] (w.alloc (.cells #[.int .i64 0,.slice none 0 0,.int .i64 0,.int .i64 0,.int .i64 0,.slice none 0 0] 34)) w2):=Lib.hid (((Upto.refl [p] _).drew).trans_same hu2)
     have o2:=kAz (HU2.out.at HBO.out (by simpa using HNE.out.1)) 0
     have o3:=kAz (((Upto.refl [] w2).alloc (.cells #[.int .i64 0,.slice none 0 0,.int .i64 0,.int .i64 0,.int .i64 0,.slice none 0 0] 34)).at (HU2.out.at HBO.out (by simpa using HNE.out.1)) (by simp)) 0
     simp only [List.getElem?_toArray,List.getElem?_cons_zero] at o2 o3
     have HR2:=Lib.hid hR2
     clear hR2 hu2)
  | (refine (sort_calls ((w.alloc (.cells #[.int .i64 0,.slice none 0 0,.int .i64 0,.int .i64 0,.int .i64 0,.slice none 0 0] 34)).alloc (.cells #[.int .i64 0,.slice none 0 0,.int .i64 0,.int .i64 0,.int .i64 0,.slice none 0 0] 34)).drew p l s (HX0.out.ext ((Upto.refl [] _).alloc _).drew) (HR0.out.ext ((Upto.refl [] _).alloc _).drew)).mono ?_
     rintro e w2 ⟨rfl,hR2,hu2⟩
     have HU2:Hid (Upto [p] (w.alloc (.cells #[.int .i64 0,.slice none 0 0,.int .i64 0,.int .i64 0,.int .i64 0,.slice none 0 0] 34)) w2):=Lib.hid ((((Upto.refl [p] _).alloc _).drew).trans_same hu2)
     have o2:=kAz (HU2.out.at HBO.out (by simpa using HNE.out.1)) 0
     simp only [List.getElem?_toArray,List.getElem?_cons_zero] at o2
     have hn2:=hu2.at ((Upto.refl [] ((w.alloc (.cells #[.int .i64 0,.slice none 0 0,.int .i64 0,.int .i64 0,.int .i64 0,.slice none 0 0] 34)).alloc (.cells #[.int .i64 0,.slice none 0 0,.int .i64 0,.int .i64 0,.int .i64 0,.slice none 0 0] 34))).drew.at (kAq (w.alloc (.cells #[.int .i64 0,.slice none 0 0,.int .i64 0,.int .i64 0,.int .i64 0,.slice none 0 0] 34)) (.cells #[.int .i64 0,.slice none 0 0,.int .i64 0,.int .i64 0,.int .i64 0,.slice none 0 0] 34)) (by simp)) (by have:=HpB.out;simp;omega)
     (try simp only [World.size_alloc] at hn2)
     obtain⟨x0,x1,x2,x3,x4,x5⟩:=kAx hn2
     obtain⟨y0,y1,y2,y3,y4,y5⟩:=kDk hn2
     have HN2:=Lib.hid hn2
     have HR2:=Lib.hid hR2
     clear hR2 hu2 hn2))
 all_goals (
  first
  | (obtain⟨W4,Bn,hW4,hBn4,hn4,hu4,hR4,hB4⟩:∃W4 Bn,W4=w2.alloc (.cells #[.int .i64 op,.slice none 0 0,.int .i64 (kBz l s).1,.int .i64 0,.int .i64 0,.slice none 0 0] 34)∧Bn=w2.heap.size∧W4.heap[Bn]?=some (.cells #[.int .i64 op,.slice none 0 0,.int .i64 (kBz l s).1,.int .i64 0,.int .i64 0,.slice none 0 0] 34 (0,0))∧Upto [p] (w.alloc (.cells #[.int .i64 0,.slice none 0 0,.int .i64 0,.int .i64 0,.int .i64 0,.slice none 0 0] 34)) W4∧RdAt W4 p l (kBz l s).2∧w.heap.size<Bn :=
     ⟨_,_,rfl,rfl,kAq _ _,HU2.out.trans_ext ((Upto.refl [] w2).alloc _),HR2.out.ext ((Upto.refl [] w2).alloc _),Nat.lt_of_lt_of_le (kAk HNew.out) HU2.out.size⟩
     rw [←hW4,←hBn4]
     clear hW4 hBn4)
  | (obtain⟨W4,Bn,hW4,hBn4,hn4,hu4,hR4,hB4⟩:∃W4 Bn,W4=((((((w2.setCell ⟨w.heap.size+1,0,none⟩ (.int .i64 op)).setCell ⟨w.heap.size+1,1,none⟩ (.slice none 0 0)).setCell ⟨w.heap.size+1,2,none⟩ (.int .i64 (kBz l s).1)).setCell ⟨w.heap.size+1,3,none⟩ (.int .i64 0)).setCell ⟨w.heap.size+1,4,none⟩ (.int .i64 0)).setCell ⟨w.heap.size+1,5,none⟩ (.slice none 0 0))∧Bn=w.heap.size+1∧W4.heap[Bn]?=some (.cells #[.int .i64 op,.slice none 0 0,.int .i64 (kBz l s).1,.int .i64 0,.int .i64 0,.slice none 0 0] 34 (0,0))∧Upto [p] (w.alloc (.cells #[.int .i64 0,.slice none 0 0,.int .i64 0,.int .i64 0,.int .i64 0,.slice none 0 0] 34)) W4∧RdAt W4 p l (kBz l s).2∧w.heap.size<Bn :=
     ⟨_,_,rfl,rfl,kEz HN2.out ..,nd_up HU2.out (Or.inr (by simp)) ..,HR2.out.other HN2.out (kPz (by simp) (by simp)) (nd_self ..) (by have:=HpB.out;omega),Nat.lt_succ_self _⟩
     rw [←hW4,←hBn4]
     clear hW4 hBn4)
  clear o0 r0 o1 r1
  have HN4:=Lib.hid hn4
  have HU4:=Lib.hid hu4
  have HR4:=Lib.hid hR4
  have HB4:=Lib.hid hB4
  have hbr4:=hu4.at HBR.out (by simpa using HNE.out.2)
  have r4:=kAz hbr4 0
  simp only [List.getElem?_toArray,List.getElem?_cons_zero] at r4
  have HBR4:=Lib.hid hbr4
  have HBn:Hid (Bn≠p∧Bn≠Br∧Bn≠w.heap.size):=Lib.hid (by have h1:=HpB.out;have h2:=HLT.out.2;omega)
  clear hn4 hu4 hR4 hB4 hbr4
  go_wp2_with fail
  refine (kMx W4 p l _ HR4.out HX0.out.len).mono ?_
  clear r4
  rintro e w5 ⟨rfl,hR5,hu5⟩
  have hn5:=hu5.at HN4.out (by simpa using HBn.out.1)
  have hua:=(Upto.refl [] w5).alloc (.cells #[.string ⟨(kAj l (kBz l s).2).1.toArray⟩] 9)
  have hn5a:=hua.at hn5 (by simp)
  obtain⟨z0,z1,z2,z3,z4,z5⟩:=kAx hn5a
  obtain⟨y0,y1,y2,y3,y4,y5⟩:=kDk hn5a
  have hs6:=(Upto.refl [Bn] (w5.alloc (.cells #[.string ⟨(kAj l (kBz l s).2).1.toArray⟩] 9))).setCell (p:=⟨Bn,1,none⟩) (Or.inl (by simp)) (.slice (some ⟨w5.heap.size,0,none⟩) 1 1)
  have hn6:=kCw hn5a 1 (.slice (some ⟨w5.heap.size,0,none⟩) 1 1)
  simp only [List.setIfInBounds_toArray,List.set_cons_zero,List.set_cons_succ] at hn6
  have hR6:=(hR5.ext hua).other hn5a (kPz (by simp) (by simp)) hs6 HBn.out.1
  have HU6:Hid (Upto [p] (w.alloc (.cells #[.int .i64 0,.slice none 0 0,.int .i64 0,.int .i64 0,.int .i64 0,.slice none 0 0] 34)) ((w5.alloc (.cells #[.string ⟨(kAj l (kBz l s).2).1.toArray⟩] 9)).setCell ⟨Bn,1,none⟩ (.slice (some ⟨w5.heap.size,0,none⟩) 1 1))):=Lib.hid (((HU4.out.trans_same hu5).trans_ext hua).setCell (Or.inr (by have h1:=HB4.out;simp;omega)) _)
  have hnx:(w5.alloc (.cells #[.string ⟨(kAj l (kBz l s).2).1.toArray⟩] 9)).heap[w5.heap.size]?=some (.cells #[.string ⟨(kAj l (kBz l s).2).1.toArray⟩] 9 (0,0)):=kAq _ _
  have hnx6:=hs6.at hnx (by have h1:=kAk hn5;simp;omega)
  have r6:=kAz (HU6.out.at HBR.out (by simpa using HNE.out.2)) 0
  simp only [List.getElem?_toArray,List.getElem?_cons_zero] at r6
  have HN6:=Lib.hid hn6
  have HR6:=Lib.hid hR6
  have HNX6:=Lib.hid hnx6
  have HL5:=Lib.hid (Nat.lt_of_lt_of_le (kAk HN4.out) hu5.size)
  have HW4:=Lib.hid (Nat.le_trans HU4.out.size hu5.size)
  clear hn5 hua hn5a hs6 hn6 hR6 hnx hnx6 hR5 hu5
  go_wp2_with fail
  refine (kSk _ p l _ [58] HR6.out HX0.out.len).mono ?_
  clear r6 z0 y0 z1 y1 z2 y2 z3 y3 z4 y4 z5 y5
  rintro e w7 ⟨rfl,hR7,hu7⟩
  have HU7:=Lib.hid (HU6.out.trans_same hu7)
  have r7:=kAz (HU7.out.at HBR.out (by simpa using HNE.out.2)) 0
  simp only [List.getElem?_toArray,List.getElem?_cons_zero] at r7
  have HN7:=Lib.hid (hu7.at HN6.out (by simpa using HBn.out.1))
  have HNX7:=Lib.hid (hu7.at HNX6.out (by have h1:=HL5.out;have h2:=HW4.out;have h3:=HpB.out;have h4:=kAk HNew.out;simp;omega))
  have HR7:=Lib.hid hR7
  have HS7:=Lib.hid hu7.size
  clear hR7 hu7
  go_wp2_with fail
  obtain⟨m,t,he1,hn1,hs1⟩:=HV.out
  refine (HFM.out w7 _ m t HU7.out HR7.out (by have h1:=((kOz HF.out hin).trans ((kEq HF.out (kOz HF.out hin).lt).1.trans (kNq HF.out (x:=[58]) (kEq HF.out (kOz HF.out hin).lt).1.lt)));rw [h1.dp];exact hd) he1).mono ?_
  clear r7
  rintro e w8 ⟨vv,rfl,hn,hR8,hu8,ha8⟩
  obtain⟨oa,na1,na2,na3,sa,ma,qa,la1,la2,la3,rfl⟩:=hn.six
  have hub:=(Upto.refl [] w8).alloc (.cells #[.int .i64 oa,.slice na1 na2 na3,.int .i64 sa,.int .i64 ma,.int .i64 qa,.slice la1 la2 la3] 34)
  have hn8:=hub.at (hu8.at HN7.out (by simpa using HBn.out.1)) (by simp)
  obtain⟨c0,c1,c2,c3,c4,c5⟩:=kAx hn8
  obtain⟨d0,d1,d2,d3,d4,d5⟩:=kDk hn8
  have hz8:=hub.at ((HU7.out.trans_same hu8).at HNew.out (by have h1:=HpB.out;simp;omega)) (by simp)
  have hnx8:=hub.at (hu8.at HNX7.out (by have h1:=HL5.out;have h2:=HW4.out;have h3:=HpB.out;have h4:=kAk HNew.out;simp;omega)) (by simp)
  have hs9:=(Upto.refl [Bn] (w8.alloc (.cells #[.int .i64 oa,.slice na1 na2 na3,.int .i64 sa,.int .i64 ma,.int .i64 qa,.slice la1 la2 la3] 34))).setCell (p:=⟨Bn,5,none⟩) (Or.inl (by simp)) (.slice (some ⟨w8.heap.size,0,none⟩) 1 1)
  have hn9:=kCw hn8 5 (.slice (some ⟨w8.heap.size,0,none⟩) 1 1)
  simp only [List.setIfInBounds_toArray,List.set_cons_zero,List.set_cons_succ] at hn9
  have hz9:=hs9.at hz8 (by have h1:=HBn.out.2.2;simp;omega)
  have hR9:=(hR8.ext hub).other hn8 (kPz (by simp) (by simp)) hs9 HBn.out.1
  have hg8:(w8.alloc (.cells #[.int .i64 oa,.slice na1 na2 na3,.int .i64 sa,.int .i64 ma,.int .i64 qa,.slice la1 la2 la3] 34)).heap[w8.heap.size]?=some (.cells #[.int .i64 oa,.slice na1 na2 na3,.int .i64 sa,.int .i64 ma,.int .i64 qa,.slice la1 la2 la3] 34 (0,0)):=kAq _ _
  have hl8:=kAk (hu8.at HN7.out (by simpa using HBn.out.1))
  have hg9:=hs9.at hg8 (by simp;omega)
  have hx9:=hs9.at hnx8 (by have h1:=HL5.out;simp;omega)
  have HU9:=Lib.hid (((HU7.out.trans_same hu8).trans_ext hub).setCell (p:=⟨Bn,5,none⟩) (Or.inr (by have h1:=HB4.out;simp;omega)) (.slice (some ⟨w8.heap.size,0,none⟩) 1 1))
  have HND:Hid (NdV ((w8.alloc (.cells #[.int .i64 oa,.slice na1 na2 na3,.int .i64 sa,.int .i64 ma,.int .i64 qa,.slice la1 la2 la3] 34)).setCell ⟨Bn,5,none⟩ (.slice (some ⟨w8.heap.size,0,none⟩) 1 1)) (fun b=>New w b∧b≠w.heap.size) (Nd.mk op [(kAj l (kBz l s).2).1] (kBz l s).1 0 0 [m]) (.agg #[.int .i64 op,.slice (some ⟨w5.heap.size,0,none⟩) 1 1,.int .i64 (kBz l s).1,.int .i64 0,.int .i64 0,.slice (some ⟨w8.heap.size,0,none⟩) 1 1])):=Lib.hid (by
   have h1:=HL5.out
   have h2:=HW4.out
   have h4:=kAk HNew.out
   have h5:=HS7.out
   simp only [World.setCell,World.size_alloc,Array.size_modify] at h5
   have h6:=hu8.size
   refine NdV.one (names:=[(kAj l (kBz l s).2).1]) (SlP.block (xs:=[sV (kAj l (kBz l s).2).1]) ⟨by unfold New;omega,by omega⟩ hx9 1 1 (fun j u hj=>by match j,hj with | 0,hj=>simpa [sV] using hj)) (((hn.ext hub).upto hs9 (fun b hb _=>by have h7:=kAk HN7.out;unfold New at hb;simp;omega)).mono (fun b hb _=>⟨by have h8:=HU7.out.size;unfold New at hb ⊢;omega,by have h8:=HU7.out.size;unfold New at hb;omega⟩)) ⟨by have h8:=HU7.out.size;unfold New;omega,by have h8:=HU7.out.size;omega⟩ hg9)
  obtain⟨x0,x1,x2,x3,x4,x5⟩:=kAx hn9
  obtain⟨u0,u1,u2,u3,u4,u5⟩:=kDk hn9
  obtain⟨z0,z1,z2,z3,z4,z5⟩:=kAx hz9
  obtain⟨y0,y1,y2,y3,y4,y5⟩:=kDk hz9
  have HZ9:=Lib.hid hz9
  have HR9:=Lib.hid hR9
  have HA8:=Lib.hid ha8
  clear hn hub hn8 hz8 hnx8 hs9 hn9 hz9 hR9 hg8 hg9 hx9 ha8 hR8 hu8 hl8 he1
  go_wp2_with fail
  subst hn1 hs1
  have hst:=kEz HZ9.out (.int .i64 op) (.slice (some ⟨w5.heap.size,0,none⟩) 1 1) (.int .i64 (kBz l s).1) (.int .i64 0) (.int .i64 0) (.slice (some ⟨w8.heap.size,0,none⟩) 1 1)
  obtain⟨q0,q1,q2,q3,q4,q5⟩:=kAx hst
  exact bodyPost_ret (v:=.agg #[.int .i64 op,.slice (some ⟨w5.heap.size,0,none⟩) 1 1,.int .i64 (kBz l s).1,.int .i64 0,.int .i64 0,.slice (some ⟨w8.heap.size,0,none⟩) 1 1]) (by simp [results,Tryz.results192,go_sem,q0,q1,q2,q3,q4,q5]) rfl (kEx (Nat.le_refl _) HpB.out (HU0.out.trans_same HU9.out) HR9.out HZ9.out (((kOz HF.out hin).trans ((kEq HF.out (kOz HF.out hin).lt).1.trans (kNq HF.out (x:=[58]) (kEq HF.out (kOz HF.out hin).lt).1.lt))).trans HA8.out) HND.out (fun b hb _=>hb)))
theorem true_calls (w:World) (p:Nat) (l:List Tok) (s s':PS) (n:Nd) (hx:Cx w p l) (h:RdAt w p l s) (_hd:s.dp≤256) (hk0:(tkAt l s).kind≠0) (he:some (Nd.mk 0 [] 0 0 0 [],kBx s)=some (n,s')) :
  Calls Tryz.prog 170 #[.pointer (some ⟨p,0,none⟩)] w (kMk w p l s n s'):=by
 have HpB:Hid (p<w.heap.size):=Lib.hid h.lt
 have hu0:Upto [] w (w.alloc (.cells #[.int .i64 0,.slice none 0 0,.int .i64 0,.int .i64 0,.int .i64 0,.slice none 0 0] 34)):=(Upto.refl [] w).alloc _
 have HR0:=Lib.hid (h.ext hu0)
 have HX0:=Lib.hid (hx.ext hu0)
 have HU0:Hid (Upto [p] w (w.alloc (.cells #[.int .i64 0,.slice none 0 0,.int .i64 0,.int .i64 0,.int .i64 0,.slice none 0 0] 34))):=Lib.hid (hu0.mono (by simp))
 have HNew:Hid ((w.alloc (.cells #[.int .i64 0,.slice none 0 0,.int .i64 0,.int .i64 0,.int .i64 0,.slice none 0 0] 34)).heap[w.heap.size]?=some (.cells #[.int .i64 0,.slice none 0 0,.int .i64 0,.int .i64 0,.int .i64 0,.slice none 0 0] 34 (0,0))):=Lib.hid (kAq _ _)
 have hin:=h.inb
 have hlen:=hx.len
 have hn0:(0:Int)≤s.nx:=by omega
 have hn1:(s.nx:Int)≤1000000:=by omega
 have HF:Hid (Fin l):=Lib.hid h.fin
 obtain⟨⟨v,hb,-,-⟩,-,-⟩:=id HR0.out
 have b1:=kAz hb 1
 have f1:=kDx hb 1
 unfold rdC at b1
 simp only [List.getElem?_toArray,List.getElem?_cons_zero,List.getElem?_cons_succ] at b1
 have h1:=HR0.out.step hk0
 have hz:=h1.2.at HNew.out (by have:=HpB.out;simp;omega)
 have HR1:=Lib.hid h1.1
 have HU1:=Lib.hid h1.2
 have HZ1:=Lib.hid hz
 have HK0:=Lib.hid hk0
 obtain⟨z0,z1,z2,z3,z4,z5⟩:=kAx hz
 obtain⟨y0,y1,y2,y3,y4,y5⟩:=kDk hz
 clear hx h hu0 hz h1 hk0 hb
 go_enter Tryz.func170,Tryz.ntmps170
 go_wp2_with fail
 cases he
 have hst:=kEz HZ1.out (.int .i64 0) (.slice none 0 0) (.int .i64 0) (.int .i64 0) (.int .i64 0) (.slice none 0 0)
 obtain⟨q0,q1,q2,q3,q4,q5⟩:=kAx hst
 exact bodyPost_ret (v:=.agg #[.int .i64 0,.slice none 0 0,.int .i64 0,.int .i64 0,.int .i64 0,.slice none 0 0]) (by simp [results,Tryz.results170,go_sem,q0,q1,q2,q3,q4,q5]) rfl (kEx (P:=fun _=>False) (Nat.le_refl _) HpB.out (HU0.out.trans_same HU1.out) HR1.out HZ1.out (Adv.step HF.out hin HK0.out) (NdV.atom (names:=[]) SlP.nil) (fun b hb _=>hb.elim))
theorem false_calls (w:World) (p:Nat) (l:List Tok) (s s':PS) (n:Nd) (hx:Cx w p l) (h:RdAt w p l s) (_hd:s.dp≤256) (hk0:(tkAt l s).kind≠0) (he:some (Nd.mk 1 [] 0 0 0 [],kBx s)=some (n,s')) :
  Calls Tryz.prog 171 #[.pointer (some ⟨p,0,none⟩)] w (kMk w p l s n s'):=by
 have HpB:Hid (p<w.heap.size):=Lib.hid h.lt
 have hu0:Upto [] w (w.alloc (.cells #[.int .i64 0,.slice none 0 0,.int .i64 0,.int .i64 0,.int .i64 0,.slice none 0 0] 34)):=(Upto.refl [] w).alloc _
 have HR0:=Lib.hid (h.ext hu0)
 have HX0:=Lib.hid (hx.ext hu0)
 have HU0:Hid (Upto [p] w (w.alloc (.cells #[.int .i64 0,.slice none 0 0,.int .i64 0,.int .i64 0,.int .i64 0,.slice none 0 0] 34))):=Lib.hid (hu0.mono (by simp))
 have HNew:Hid ((w.alloc (.cells #[.int .i64 0,.slice none 0 0,.int .i64 0,.int .i64 0,.int .i64 0,.slice none 0 0] 34)).heap[w.heap.size]?=some (.cells #[.int .i64 0,.slice none 0 0,.int .i64 0,.int .i64 0,.int .i64 0,.slice none 0 0] 34 (0,0))):=Lib.hid (kAq _ _)
 have hin:=h.inb
 have hlen:=hx.len
 have hn0:(0:Int)≤s.nx:=by omega
 have hn1:(s.nx:Int)≤1000000:=by omega
 have HF:Hid (Fin l):=Lib.hid h.fin
 obtain⟨⟨v,hb,-,-⟩,-,-⟩:=id HR0.out
 have b1:=kAz hb 1
 have f1:=kDx hb 1
 unfold rdC at b1
 simp only [List.getElem?_toArray,List.getElem?_cons_zero,List.getElem?_cons_succ] at b1
 have h1:=HR0.out.step hk0
 have hz:=h1.2.at HNew.out (by have:=HpB.out;simp;omega)
 have HR1:=Lib.hid h1.1
 have HU1:=Lib.hid h1.2
 have HZ1:=Lib.hid hz
 have HK0:=Lib.hid hk0
 obtain⟨z0,z1,z2,z3,z4,z5⟩:=kAx hz
 obtain⟨y0,y1,y2,y3,y4,y5⟩:=kDk hz
 clear hx h hu0 hz h1 hk0 hb
 go_enter Tryz.func171,Tryz.ntmps171
 go_wp2_with fail
 cases he
 have hst:=kEz HZ1.out (.int .i64 1) (.slice none 0 0) (.int .i64 0) (.int .i64 0) (.int .i64 0) (.slice none 0 0)
 obtain⟨q0,q1,q2,q3,q4,q5⟩:=kAx hst
 exact bodyPost_ret (v:=.agg #[.int .i64 1,.slice none 0 0,.int .i64 0,.int .i64 0,.int .i64 0,.slice none 0 0]) (by simp [results,Tryz.results171,go_sem,q0,q1,q2,q3,q4,q5]) rfl (kEx (P:=fun _=>False) (Nat.le_refl _) HpB.out (HU0.out.trans_same HU1.out) HR1.out HZ1.out (Adv.step HF.out hin HK0.out) (NdV.atom (names:=[]) SlP.nil) (fun b hb _=>hb.elim))
theorem one_calls (w:World) (p:Nat) (l:List Tok) (s s':PS) (n:Nd) (hx:Cx w p l) (h:RdAt w p l s) (_hd:s.dp≤256) (hk0:(tkAt l s).kind≠0) (he:some (oneP l s)=some (n,s')) :
  Calls Tryz.prog 174 #[.pointer (some ⟨p,0,none⟩)] w (kMk w p l s n s'):=by
 have HpB:Hid (p<w.heap.size):=Lib.hid h.lt
 have hu0:Upto [] w (w.alloc (.cells #[.int .i64 0,.slice none 0 0,.int .i64 0,.int .i64 0,.int .i64 0,.slice none 0 0] 34)):=(Upto.refl [] w).alloc _
 have HR0:=Lib.hid (h.ext hu0)
 have HX0:=Lib.hid (hx.ext hu0)
 have HU0:Hid (Upto [p] w (w.alloc (.cells #[.int .i64 0,.slice none 0 0,.int .i64 0,.int .i64 0,.int .i64 0,.slice none 0 0] 34))):=Lib.hid (hu0.mono (by simp))
 have HNew:Hid ((w.alloc (.cells #[.int .i64 0,.slice none 0 0,.int .i64 0,.int .i64 0,.int .i64 0,.slice none 0 0] 34)).heap[w.heap.size]?=some (.cells #[.int .i64 0,.slice none 0 0,.int .i64 0,.int .i64 0,.int .i64 0,.slice none 0 0] 34 (0,0))):=Lib.hid (kAq _ _)
 have hin:=h.inb
 have hlen:=hx.len
 have hn0:(0:Int)≤s.nx:=by omega
 have hn1:(s.nx:Int)≤1000000:=by omega
 have HF:Hid (Fin l):=Lib.hid h.fin
 obtain⟨⟨v,hb,-,-⟩,-,-⟩:=id HR0.out
 have b1:=kAz hb 1
 have f1:=kDx hb 1
 unfold rdC at b1
 simp only [List.getElem?_toArray,List.getElem?_cons_zero,List.getElem?_cons_succ] at b1
 have h1:=HR0.out.step hk0
 have hz:=h1.2.at HNew.out (by have:=HpB.out;simp;omega)
 have HR1:=Lib.hid h1.1
 have HU1:=Lib.hid h1.2
 have HZ1:=Lib.hid hz
 have HK0:=Lib.hid hk0
 clear h hu0 hz h1 hk0 hb
 go_enter Tryz.func174,Tryz.ntmps174
 go_wp2_with fail
 refine (kMx _ p l (kBx s) HR1.out hx.len).mono ?_
 clear b1 f1
 rintro e w2 ⟨rfl,hR2,hu2⟩
 have hua:=(Upto.refl [] w2).alloc (.cells #[.string ⟨(kAj l (kBx s)).1.toArray⟩] 9)
 have hz:=hua.at (hu2.at HZ1.out (by have:=HpB.out;simp;omega)) (by simp)
 have hg:(w2.alloc (.cells #[.string ⟨(kAj l (kBx s)).1.toArray⟩] 9)).heap[w2.heap.size]?=some (.cells #[.string ⟨(kAj l (kBx s)).1.toArray⟩] 9 (0,0)):=kAq _ _
 obtain⟨z0,z1,z2,z3,z4,z5⟩:=kAx hz
 obtain⟨y0,y1,y2,y3,y4,y5⟩:=kDk hz
 have HZ:=Lib.hid hz
 have HR2:=Lib.hid (hR2.ext hua)
 have HU2:=Lib.hid (hu2.trans_ext hua)
 have HG:=Lib.hid hg
 have HS2:=Lib.hid hu2.size
 clear hz hR2 hua hg hu2 hx
 go_wp2_with fail
 have h9:=kAk HZ1.out
 have h8:=HS2.out
 unfold oneP at he
 simp only [Option.some.injEq,Prod.mk.injEq] at he
 obtain⟨rfl,rfl⟩:=he
 have hst:=kEz HZ.out (.int .i64 9) (.slice (some ⟨w2.heap.size,0,none⟩) 1 1) (.int .i64 0) (.int .i64 0) (.int .i64 0) (.slice none 0 0)
 obtain⟨q0,q1,q2,q3,q4,q5⟩:=kAx hst
 exact bodyPost_ret (v:=.agg #[.int .i64 9,.slice (some ⟨w2.heap.size,0,none⟩) 1 1,.int .i64 0,.int .i64 0,.int .i64 0,.slice none 0 0]) (by simp [results,Tryz.results174,go_sem,q0,q1,q2,q3,q4,q5]) rfl (kEx (P:=fun b=>New w b∧b≠w.heap.size) (Nat.le_refl _) HpB.out ((HU0.out.trans_same HU1.out).trans_same HU2.out) HR2.out HZ.out ((Adv.step HF.out hin HK0.out).trans (kEq HF.out (Adv.step HF.out hin HK0.out).lt).1)
  (NdV.atom (names:=[(kAj l (kBx s)).1]) (SlP.block (xs:=[sV (kAj l (kBx s)).1]) ⟨by unfold New;omega,by omega⟩ HG.out 1 1 (fun j u hj=>by match j,hj with | 0,hj=>simpa [sV] using hj))) (fun b hb _=>hb))
theorem not1_calls (w:World) (p:Nat) (l:List Tok) (s s':PS) (n:Nd) (Br:Nat) (of:Rd) (hx:Cx w p l) (h:RdAt w p l s) (hd:s.dp≤256) (hbr:w.heap[Br]?=some (.cells #[.pointer (some ⟨p,0,none⟩)] 88 (0,0))) (hbp:Br≠p) (hop:Rdr w p l 147 #[.pointer (some ⟨p,0,none⟩)] of) (he:(fun t=>(of t).map fun r=>(Nd.mk 11 [] 0 0 0 [r.1],r.2)) s=some (n,s')) :
  Calls Tryz.prog 177 #[.pointer (some ⟨Br,0,none⟩)] w (kMk w p l s n s'):=by
 have HpB:Hid (p<w.heap.size):=Lib.hid h.lt
 have hu0:Upto [] w (w.alloc (.cells #[.int .i64 0,.slice none 0 0,.int .i64 0,.int .i64 0,.int .i64 0,.slice none 0 0] 34)):=(Upto.refl [] w).alloc _
 have HR0:=Lib.hid (h.ext hu0)
 have HX0:=Lib.hid (hx.ext hu0)
 have HU0:Hid (Upto [p] w (w.alloc (.cells #[.int .i64 0,.slice none 0 0,.int .i64 0,.int .i64 0,.int .i64 0,.slice none 0 0] 34))):=Lib.hid (hu0.mono (by simp))
 have HNew:Hid ((w.alloc (.cells #[.int .i64 0,.slice none 0 0,.int .i64 0,.int .i64 0,.int .i64 0,.slice none 0 0] 34)).heap[w.heap.size]?=some (.cells #[.int .i64 0,.slice none 0 0,.int .i64 0,.int .i64 0,.int .i64 0,.slice none 0 0] 34 (0,0))):=Lib.hid (kAq _ _)
 have HBR:=Lib.hid (hu0.at hbr (by simp))
 have HLT:=Lib.hid (kAk hbr)
 have HNE:=Lib.hid hbp
 have c0:=kAz HBR.out 0
 simp only [List.getElem?_toArray,List.getElem?_cons_zero] at c0
 have HF:Hid (Fin l):=Lib.hid h.fin
 have hin:=h.inb
 have HOP:=Lib.hid (hop.upto HU0.out)
 have HV:Hid (∃m t,of s=some (m,t)∧n=Nd.mk 11 [] 0 0 0 [m]∧s'=t):=Lib.hid (by
  simp only at he
  cases hq:of s with
  | none=>rw [hq] at he;cases he
  | some r=>obtain⟨m,t⟩:=r;rw [hq] at he;simp at he;exact⟨m,t,rfl,he.1.symm,he.2.symm⟩)
 clear hx h he hu0 hbr hbp hop
 go_enter Tryz.func177,Tryz.ntmps177
 go_wp2_with fail
 obtain⟨m,t,he1,hn1,hs1⟩:=HV.out
 refine (HOP.out _ s m t (Upto.refl _ _) HR0.out hd he1).mono ?_
 clear c0
 rintro e w2 ⟨vv,rfl,hn,hR2,hu2,ha⟩
 obtain⟨oa,na1,na2,na3,sa,ma,qa,la1,la2,la3,rfl⟩:=hn.six
 have hua:=(Upto.refl [] w2).alloc (.cells #[.int .i64 oa,.slice na1 na2 na3,.int .i64 sa,.int .i64 ma,.int .i64 qa,.slice la1 la2 la3] 34)
 have hz:=hua.at (hu2.at HNew.out (by have:=HpB.out;simp;omega)) (by simp)
 have hg:(w2.alloc (.cells #[.int .i64 oa,.slice na1 na2 na3,.int .i64 sa,.int .i64 ma,.int .i64 qa,.slice la1 la2 la3] 34)).heap[w2.heap.size]?=some (.cells #[.int .i64 oa,.slice na1 na2 na3,.int .i64 sa,.int .i64 ma,.int .i64 qa,.slice la1 la2 la3] 34 (0,0)):=kAq _ _
 obtain⟨z0,z1,z2,z3,z4,z5⟩:=kAx hz
 obtain⟨y0,y1,y2,y3,y4,y5⟩:=kDk hz
 have HZ:=Lib.hid hz
 have HR2:=Lib.hid (hR2.ext hua)
 have HU2:=Lib.hid (hu2.trans_ext hua)
 have HG:=Lib.hid hg
 have HN:=Lib.hid (hn.ext hua)
 have HA:=Lib.hid ha
 have HS2:=Lib.hid hu2.size
 clear hz hR2 hua hg hu2 hn ha
 go_wp2_with fail
 have h9:=kAk HNew.out
 have h8:=HS2.out
 have h7:=HU0.out.size
 subst hn1 hs1
 have hst:=kEz HZ.out (.int .i64 11) (.slice none 0 0) (.int .i64 0) (.int .i64 0) (.int .i64 0) (.slice (some ⟨w2.heap.size,0,none⟩) 1 1)
 obtain⟨q0,q1,q2,q3,q4,q5⟩:=kAx hst
 exact bodyPost_ret (v:=.agg #[.int .i64 11,.slice none 0 0,.int .i64 0,.int .i64 0,.int .i64 0,.slice (some ⟨w2.heap.size,0,none⟩) 1 1]) (by simp [results,Tryz.results177,go_sem,q0,q1,q2,q3,q4,q5]) rfl (kEx (P:=fun b=>New w b∧b≠w.heap.size) (Nat.le_refl _) HpB.out (HU0.out.trans_same HU2.out) HR2.out HZ.out HA.out
  (NdV.one (names:=[]) SlP.nil (HN.out.mono (fun b hb _=>⟨by unfold New at hb ⊢;omega,by unfold New at hb;omega⟩)) ⟨by unfold New;omega,by omega⟩ HG.out) (fun b hb _=>hb))
theorem paren1_calls (w:World) (p:Nat) (l:List Tok) (s s':PS) (n:Nd) (Br:Nat) (fm:Rd) (hx:Cx w p l) (h:RdAt w p l s) (hd:s.dp≤256) (hbr:w.heap[Br]?=some (.cells #[.pointer (some ⟨p,0,none⟩)] 88 (0,0))) (hbp:Br≠p) (hfm:Rdr w p l 58 #[.pointer (some ⟨p,0,none⟩)] fm) (he:(fun t=>(fm t).map fun r=>(r.1,kPj l [41] r.2)) s=some (n,s')) :
  Calls Tryz.prog 182 #[.pointer (some ⟨Br,0,none⟩)] w (kMk w p l s n s'):=by
 have HpB:Hid (p<w.heap.size):=Lib.hid h.lt
 have hu0:Upto [] w (w.alloc (.cells #[.int .i64 0,.slice none 0 0,.int .i64 0,.int .i64 0,.int .i64 0,.slice none 0 0] 34)):=(Upto.refl [] w).alloc _
 have HR0:=Lib.hid (h.ext hu0)
 have HX0:=Lib.hid (hx.ext hu0)
 have HU0:Hid (Upto [p] w (w.alloc (.cells #[.int .i64 0,.slice none 0 0,.int .i64 0,.int .i64 0,.int .i64 0,.slice none 0 0] 34))):=Lib.hid (hu0.mono (by simp))
 have HNew:Hid ((w.alloc (.cells #[.int .i64 0,.slice none 0 0,.int .i64 0,.int .i64 0,.int .i64 0,.slice none 0 0] 34)).heap[w.heap.size]?=some (.cells #[.int .i64 0,.slice none 0 0,.int .i64 0,.int .i64 0,.int .i64 0,.slice none 0 0] 34 (0,0))):=Lib.hid (kAq _ _)
 have HBR:=Lib.hid (hu0.at hbr (by simp))
 have HLT:=Lib.hid (kAk hbr)
 have HNE:=Lib.hid hbp
 have c0:=kAz HBR.out 0
 simp only [List.getElem?_toArray,List.getElem?_cons_zero] at c0
 have HF:Hid (Fin l):=Lib.hid h.fin
 have hin:=h.inb
 have HFM:=Lib.hid (hfm.upto HU0.out)
 have hlen:=hx.len
 have HV:Hid (∃m t,fm s=some (m,t)∧n=m∧s'=kPj l [41] t):=Lib.hid (by
  simp only at he
  cases hq:fm s with
  | none=>rw [hq] at he;cases he
  | some r=>obtain⟨m,t⟩:=r;rw [hq] at he;simp at he;exact⟨m,t,rfl,he.1.symm,he.2.symm⟩)
 clear hx h he hu0 hbr hbp hfm
 go_enter Tryz.func182,Tryz.ntmps182
 go_wp2_with fail
 obtain⟨m,t,he1,hn1,hs1⟩:=HV.out
 refine (HFM.out _ s m t (Upto.refl _ _) HR0.out hd he1).mono ?_
 clear c0
 rintro e w2 ⟨vv,rfl,hn,hR2,hu2,ha⟩
 obtain⟨oa,na1,na2,na3,sa,ma,qa,la1,la2,la3,rfl⟩:=hn.six
 have hua:=(Upto.refl [] w2).alloc (.cells #[.int .i64 oa,.slice na1 na2 na3,.int .i64 sa,.int .i64 ma,.int .i64 qa,.slice la1 la2 la3] 34)
 have c2:=kAz (hua.at (hu2.at HBR.out (by simpa using HNE.out)) (by simp)) 0
 simp only [List.getElem?_toArray,List.getElem?_cons_zero] at c2
 have HZ2:=Lib.hid (hua.at (hu2.at HNew.out (by have:=HpB.out;simp;omega)) (by simp))
 have HG:Hid ((w2.alloc (.cells #[.int .i64 oa,.slice na1 na2 na3,.int .i64 sa,.int .i64 ma,.int .i64 qa,.slice la1 la2 la3] 34)).heap[w2.heap.size]?=some (.cells #[.int .i64 oa,.slice na1 na2 na3,.int .i64 sa,.int .i64 ma,.int .i64 qa,.slice la1 la2 la3] 34 (0,0))):=Lib.hid (kAq _ _)
 have HR2:=Lib.hid (hR2.ext hua)
 have HU2:=Lib.hid (hu2.trans_ext hua)
 have HN:=Lib.hid (hn.ext hua)
 have HA:=Lib.hid ha
 have HS2:=Lib.hid hu2.size
 clear hR2 hua hu2 hn ha
 go_wp2_with fail
 refine (kSk _ p l t [41] HR2.out hlen).mono ?_
 clear c2
 rintro e w3 ⟨rfl,hR3,hu3⟩
 have hp3:p≠w2.heap.size:=by have h1:=HS2.out;have h2:=kAk HNew.out;have h3:=HpB.out;omega
 have hz:=hu3.at HZ2.out (by have:=HpB.out;simp;omega)
 have hg:=hu3.at HG.out (by simp;omega)
 obtain⟨z0,z1,z2,z3,z4,z5⟩:=kAx hz
 obtain⟨y0,y1,y2,y3,y4,y5⟩:=kDk hz
 obtain⟨x0,x1,x2,x3,x4,x5⟩:=kAx hg
 obtain⟨u0,u1,u2,u3,u4,u5⟩:=kDk hg
 have HZ:=Lib.hid hz
 have HR3:=Lib.hid hR3
 have HU3:=Lib.hid hu3
 clear hz hR3 hg hu3 hp3
 go_wp2_with fail
 have h9:=kAk HNew.out
 have h8:=HS2.out
 have h7:=HU0.out.size
 have h6:=HpB.out
 subst hn1 hs1
 have hst:=kEz HZ.out (.int .i64 oa) (.slice na1 na2 na3) (.int .i64 sa) (.int .i64 ma) (.int .i64 qa) (.slice la1 la2 la3)
 obtain⟨q0,q1,q2,q3,q4,q5⟩:=kAx hst
 exact bodyPost_ret (v:=.agg #[.int .i64 oa,.slice na1 na2 na3,.int .i64 sa,.int .i64 ma,.int .i64 qa,.slice la1 la2 la3]) (by simp [results,Tryz.results182,go_sem,q0,q1,q2,q3,q4,q5]) rfl (kEx (P:=fun b=>New w b∧b≠w.heap.size) (Nat.le_refl _) HpB.out ((HU0.out.trans_same HU2.out).trans_same HU3.out) HR3.out HZ.out (HA.out.trans (kNq HF.out HA.out.lt))
  ((HN.out.upto HU3.out (fun b hb _=>by unfold New at hb;simp;omega)).mono (fun b hb _=>⟨by unfold New at hb ⊢;omega,by unfold New at hb;omega⟩)) (fun b hb _=>hb))
theorem not_calls (w:World) (p:Nat) (l:List Tok) (s s':PS) (n:Nd) (of:Rd) (hx:Cx w p l) (h:RdAt w p l s) (hd:s.dp≤256) (hk0:(tkAt l s).kind≠0) (hop:Rdr w p l 147 #[.pointer (some ⟨p,0,none⟩)] of) (he:notP of s=some (n,s')) :
  Calls Tryz.prog 175 #[.pointer (some ⟨p,0,none⟩)] w (kMk w p l s n s'):=by
 have HpB:Hid (p<w.heap.size):=Lib.hid h.lt
 have hu0:Upto [] w ((w.alloc (.cells #[.pointer (some ⟨p,0,none⟩)] 88)).alloc (.cells #[.int .i64 0,.slice none 0 0,.int .i64 0,.int .i64 0,.int .i64 0,.slice none 0 0] 34)):=((Upto.refl [] w).alloc _).alloc _
 have HR0:=Lib.hid (h.ext hu0)
 have HX0:=Lib.hid (hx.ext hu0)
 have HU0:Hid (Upto [p] w ((w.alloc (.cells #[.pointer (some ⟨p,0,none⟩)] 88)).alloc (.cells #[.int .i64 0,.slice none 0 0,.int .i64 0,.int .i64 0,.int .i64 0,.slice none 0 0] 34))):=Lib.hid (hu0.mono (by simp))
 have HNew:Hid (((w.alloc (.cells #[.pointer (some ⟨p,0,none⟩)] 88)).alloc (.cells #[.int .i64 0,.slice none 0 0,.int .i64 0,.int .i64 0,.int .i64 0,.slice none 0 0] 34)).heap[w.heap.size+1]?=some (.cells #[.int .i64 0,.slice none 0 0,.int .i64 0,.int .i64 0,.int .i64 0,.slice none 0 0] 34 (0,0))):=Lib.hid (kFz _ _ _)
 have hb0:((w.alloc (.cells #[.pointer (some ⟨p,0,none⟩)] 88)).alloc (.cells #[.int .i64 0,.slice none 0 0,.int .i64 0,.int .i64 0,.int .i64 0,.slice none 0 0] 34)).heap[w.heap.size]?=some (.cells #[.pointer (some ⟨p,0,none⟩)] 88 (0,0)):=kCx (kAq _ _) _
 have c0:=kAz hb0 0
 simp only [List.getElem?_toArray,List.getElem?_cons_zero] at c0
 have HB0:=Lib.hid hb0
 clear hb0
 have HOP:=Lib.hid (hop.upto HU0.out)
 have HO1:Hid (Rdr ((w.alloc (.cells #[.pointer (some ⟨p,0,none⟩)] 88)).alloc (.cells #[.int .i64 0,.slice none 0 0,.int .i64 0,.int .i64 0,.int .i64 0,.slice none 0 0] 34)) p l 177 #[.pointer (some ⟨w.heap.size,0,none⟩)] (fun t=>(of t).map fun r=>(Nd.mk 11 [] 0 0 0 [r.1],r.2))):=Lib.hid (fun w1 s1 n1 s2 h1 h2 h3 h4=>not1_calls w1 p l s1 s2 n1 w.heap.size of (HX0.out.upto h1) h2 h3 (h1.at HB0.out (by have:=HpB.out;simp;omega)) (by have:=HpB.out;omega) (HOP.out.upto h1) h4)
 clear hx h hu0
 go_enter Tryz.func175,Tryz.ntmps175
 go_wp2_with fail
 refine (level_calls _ p l s s' n 177 _ _ HX0.out HR0.out hd hk0 (kMq Tryz.func177 (by kernel_rfl) rfl) HO1.out he).mono ?_
 clear c0
 rintro e w2 ⟨vv,rfl,hn,hR2,hu2,ha⟩
 obtain⟨oa,na1,na2,na3,sa,ma,qa,la1,la2,la3,rfl⟩:=hn.six
 have hz:=hu2.at HNew.out (by have:=HpB.out;simp;omega)
 obtain⟨z0,z1,z2,z3,z4,z5⟩:=kAx hz
 obtain⟨y0,y1,y2,y3,y4,y5⟩:=kDk hz
 have HZ:=Lib.hid hz
 have HN:=Lib.hid hn
 have HR2:=Lib.hid hR2
 have HU2:=Lib.hid hu2
 have HA:=Lib.hid ha
 clear hn hR2 hu2 ha hz
 go_wp2_with fail
 have hst:=kEz HZ.out (.int .i64 oa) (.slice na1 na2 na3) (.int .i64 sa) (.int .i64 ma) (.int .i64 qa) (.slice la1 la2 la3)
 obtain⟨q0,q1,q2,q3,q4,q5⟩:=kAx hst
 exact bodyPost_ret (v:=.agg #[.int .i64 oa,.slice na1 na2 na3,.int .i64 sa,.int .i64 ma,.int .i64 qa,.slice la1 la2 la3]) (by simp [results,Tryz.results175,go_sem,q0,q1,q2,q3,q4,q5]) rfl (kEx (by omega) (by have:=HpB.out;omega) (HU0.out.trans_same HU2.out) HR2.out HZ.out HA.out HN.out (fun b hb _=>by have h1:=HU0.out.size;have h2:=kAk HNew.out;unfold New at hb ⊢;omega))
theorem paren_calls (w:World) (p:Nat) (l:List Tok) (s s':PS) (n:Nd) (fm:Rd) (hx:Cx w p l) (h:RdAt w p l s) (hd:s.dp≤256) (hk0:(tkAt l s).kind≠0) (hfm:Rdr w p l 58 #[.pointer (some ⟨p,0,none⟩)] fm) (he:parenP l fm s=some (n,s')) :
  Calls Tryz.prog 181 #[.pointer (some ⟨p,0,none⟩)] w (kMk w p l s n s'):=by
 have HpB:Hid (p<w.heap.size):=Lib.hid h.lt
 have hu0:Upto [] w ((w.alloc (.cells #[.pointer (some ⟨p,0,none⟩)] 88)).alloc (.cells #[.int .i64 0,.slice none 0 0,.int .i64 0,.int .i64 0,.int .i64 0,.slice none 0 0] 34)):=((Upto.refl [] w).alloc _).alloc _
 have HR0:=Lib.hid (h.ext hu0)
 have HX0:=Lib.hid (hx.ext hu0)
 have HU0:Hid (Upto [p] w ((w.alloc (.cells #[.pointer (some ⟨p,0,none⟩)] 88)).alloc (.cells #[.int .i64 0,.slice none 0 0,.int .i64 0,.int .i64 0,.int .i64 0,.slice none 0 0] 34))):=Lib.hid (hu0.mono (by simp))
 have HNew:Hid (((w.alloc (.cells #[.pointer (some ⟨p,0,none⟩)] 88)).alloc (.cells #[.int .i64 0,.slice none 0 0,.int .i64 0,.int .i64 0,.int .i64 0,.slice none 0 0] 34)).heap[w.heap.size+1]?=some (.cells #[.int .i64 0,.slice none 0 0,.int .i64 0,.int .i64 0,.int .i64 0,.slice none 0 0] 34 (0,0))):=Lib.hid (kFz _ _ _)
 have hb0:((w.alloc (.cells #[.pointer (some ⟨p,0,none⟩)] 88)).alloc (.cells #[.int .i64 0,.slice none 0 0,.int .i64 0,.int .i64 0,.int .i64 0,.slice none 0 0] 34)).heap[w.heap.size]?=some (.cells #[.pointer (some ⟨p,0,none⟩)] 88 (0,0)):=kCx (kAq _ _) _
 have c0:=kAz hb0 0
 simp only [List.getElem?_toArray,List.getElem?_cons_zero] at c0
 have HB0:=Lib.hid hb0
 clear hb0
 have HFM:=Lib.hid (hfm.upto HU0.out)
 have HO1:Hid (Rdr ((w.alloc (.cells #[.pointer (some ⟨p,0,none⟩)] 88)).alloc (.cells #[.int .i64 0,.slice none 0 0,.int .i64 0,.int .i64 0,.int .i64 0,.slice none 0 0] 34)) p l 182 #[.pointer (some ⟨w.heap.size,0,none⟩)] (fun t=>(fm t).map fun r=>(r.1,kPj l [41] r.2))):=Lib.hid (fun w1 s1 n1 s2 h1 h2 h3 h4=>paren1_calls w1 p l s1 s2 n1 w.heap.size fm (HX0.out.upto h1) h2 h3 (h1.at HB0.out (by have:=HpB.out;simp;omega)) (by have:=HpB.out;omega) (HFM.out.upto h1) h4)
 clear hx h hu0
 go_enter Tryz.func181,Tryz.ntmps181
 go_wp2_with fail
 refine (level_calls _ p l s s' n 182 _ _ HX0.out HR0.out hd hk0 (kMq Tryz.func182 (by kernel_rfl) rfl) HO1.out he).mono ?_
 clear c0
 rintro e w2 ⟨vv,rfl,hn,hR2,hu2,ha⟩
 obtain⟨oa,na1,na2,na3,sa,ma,qa,la1,la2,la3,rfl⟩:=hn.six
 have hz:=hu2.at HNew.out (by have:=HpB.out;simp;omega)
 obtain⟨z0,z1,z2,z3,z4,z5⟩:=kAx hz
 obtain⟨y0,y1,y2,y3,y4,y5⟩:=kDk hz
 have HZ:=Lib.hid hz
 have HN:=Lib.hid hn
 have HR2:=Lib.hid hR2
 have HU2:=Lib.hid hu2
 have HA:=Lib.hid ha
 clear hn hR2 hu2 ha hz
 go_wp2_with fail
 have hst:=kEz HZ.out (.int .i64 oa) (.slice na1 na2 na3) (.int .i64 sa) (.int .i64 ma) (.int .i64 qa) (.slice la1 la2 la3)
 obtain⟨q0,q1,q2,q3,q4,q5⟩:=kAx hst
 exact bodyPost_ret (v:=.agg #[.int .i64 oa,.slice na1 na2 na3,.int .i64 sa,.int .i64 ma,.int .i64 qa,.slice la1 la2 la3]) (by simp [results,Tryz.results181,go_sem,q0,q1,q2,q3,q4,q5]) rfl (kEx (by omega) (by have:=HpB.out;omega) (HU0.out.trans_same HU2.out) HR2.out HZ.out HA.out HN.out (fun b hb _=>by have h1:=HU0.out.size;have h2:=kAk HNew.out;unfold New at hb ⊢;omega))
theorem bind_calls (w:World) (p:Nat) (l:List Tok) (s s':PS) (n:Nd) (op:Int) (fm:Rd) (hx:Cx w p l) (h:RdAt w p l s) (hd:s.dp≤256) (hk0:(tkAt l s).kind≠0) (hfm:Rdr w p l 58 #[.pointer (some ⟨p,0,none⟩)] fm) (he:bindP l op fm s=some (n,s')) :
  Calls Tryz.prog 179 #[.pointer (some ⟨p,0,none⟩),.int .i64 op] w (kMk w p l s n s'):=by
 have HpB:Hid (p<w.heap.size):=Lib.hid h.lt
 have hu0:Upto [] w (((w.alloc (.cells #[.pointer (some ⟨p,0,none⟩)] 88)).alloc (.cells #[.int .i64 op] 3)).alloc (.cells #[.int .i64 0,.slice none 0 0,.int .i64 0,.int .i64 0,.int .i64 0,.slice none 0 0] 34)):=(((Upto.refl [] w).alloc _).alloc _).alloc _
 have HR0:=Lib.hid (h.ext hu0)
 have HX0:=Lib.hid (hx.ext hu0)
 have HU0:Hid (Upto [p] w (((w.alloc (.cells #[.pointer (some ⟨p,0,none⟩)] 88)).alloc (.cells #[.int .i64 op] 3)).alloc (.cells #[.int .i64 0,.slice none 0 0,.int .i64 0,.int .i64 0,.int .i64 0,.slice none 0 0] 34))):=Lib.hid (hu0.mono (by simp))
 have HNew:Hid ((((w.alloc (.cells #[.pointer (some ⟨p,0,none⟩)] 88)).alloc (.cells #[.int .i64 op] 3)).alloc (.cells #[.int .i64 0,.slice none 0 0,.int .i64 0,.int .i64 0,.int .i64 0,.slice none 0 0] 34)).heap[w.heap.size+1+1]?=some (.cells #[.int .i64 0,.slice none 0 0,.int .i64 0,.int .i64 0,.int .i64 0,.slice none 0 0] 34 (0,0))):=Lib.hid (new_at2 _ _ _ _)
 have hb0:(((w.alloc (.cells #[.pointer (some ⟨p,0,none⟩)] 88)).alloc (.cells #[.int .i64 op] 3)).alloc (.cells #[.int .i64 0,.slice none 0 0,.int .i64 0,.int .i64 0,.int .i64 0,.slice none 0 0] 34)).heap[w.heap.size]?=some (.cells #[.pointer (some ⟨p,0,none⟩)] 88 (0,0)):=kCx (kCx (kAq _ _) _) _
 have c0:=kAz hb0 0
 simp only [List.getElem?_toArray,List.getElem?_cons_zero] at c0
 have HB0:=Lib.hid hb0
 clear hb0
 have hb1:(((w.alloc (.cells #[.pointer (some ⟨p,0,none⟩)] 88)).alloc (.cells #[.int .i64 op] 3)).alloc (.cells #[.int .i64 0,.slice none 0 0,.int .i64 0,.int .i64 0,.int .i64 0,.slice none 0 0] 34)).heap[w.heap.size+1]?=some (.cells #[.int .i64 op] 3 (0,0)):=kCx (kFz _ _ _) _
 have c1:=kAz hb1 0
 simp only [List.getElem?_toArray,List.getElem?_cons_zero] at c1
 have HB1:=Lib.hid hb1
 clear hb1
 have HFM:=Lib.hid (hfm.upto HU0.out)
 have HO1:Hid (Rdr (((w.alloc (.cells #[.pointer (some ⟨p,0,none⟩)] 88)).alloc (.cells #[.int .i64 op] 3)).alloc (.cells #[.int .i64 0,.slice none 0 0,.int .i64 0,.int .i64 0,.int .i64 0,.slice none 0 0] 34)) p l 192 #[.pointer (some ⟨w.heap.size+1,0,none⟩),.pointer (some ⟨w.heap.size,0,none⟩)] (fun t=>(fm (kPj l [58] (kAj l (kBz l t).2).2)).map fun r=>(Nd.mk op [(kAj l (kBz l t).2).1] (kBz l t).1 0 0 [r.1],r.2))):=Lib.hid (fun w1 s1 n1 s2 h1 h2 h3 h4 =>
  bind1_calls w1 p l s1 s2 n1 op (w.heap.size+1) w.heap.size fm (HX0.out.upto h1) h2 h3 (h1.at HB1.out (by have:=HpB.out;simp;omega)) (h1.at HB0.out (by have:=HpB.out;simp;omega)) (by have:=HpB.out;omega) (HFM.out.upto h1) h4)
 clear hx h hu0
 go_enter Tryz.func179,Tryz.ntmps179
 go_wp2_with fail
 refine (level_calls _ p l s s' n 192 _ _ HX0.out HR0.out hd hk0 (kMq Tryz.func192 (by kernel_rfl) rfl) HO1.out he).mono ?_
 clear c0 c1
 rintro e w2 ⟨vv,rfl,hn,hR2,hu2,ha⟩
 obtain⟨oa,na1,na2,na3,sa,ma,qa,la1,la2,la3,rfl⟩:=hn.six
 have hz:=hu2.at HNew.out (by have:=HpB.out;simp;omega)
 obtain⟨z0,z1,z2,z3,z4,z5⟩:=kAx hz
 obtain⟨y0,y1,y2,y3,y4,y5⟩:=kDk hz
 have HZ:=Lib.hid hz
 have HN:=Lib.hid hn
 have HR2:=Lib.hid hR2
 have HU2:=Lib.hid hu2
 have HA:=Lib.hid ha
 clear hn hR2 hu2 ha hz
 go_wp2_with fail
 have hst:=kEz HZ.out (.int .i64 oa) (.slice na1 na2 na3) (.int .i64 sa) (.int .i64 ma) (.int .i64 qa) (.slice la1 la2 la3)
 obtain⟨q0,q1,q2,q3,q4,q5⟩:=kAx hst
 exact bodyPost_ret (v:=.agg #[.int .i64 oa,.slice na1 na2 na3,.int .i64 sa,.int .i64 ma,.int .i64 qa,.slice la1 la2 la3]) (by simp [results,Tryz.results179,go_sem,q0,q1,q2,q3,q4,q5]) rfl (kEx (by omega) (by have:=HpB.out;omega) (HU0.out.trans_same HU2.out) HR2.out HZ.out HA.out HN.out (fun b hb _=>by have h1:=HU0.out.size;have h2:=kAk HNew.out;unfold New at hb ⊢;omega))
theorem some_calls (w:World) (p:Nat) (l:List Tok) (s s':PS) (n:Nd) (fm:Rd) (hx:Cx w p l) (h:RdAt w p l s) (hd:s.dp≤256) (hk0:(tkAt l s).kind≠0) (hfm:Rdr w p l 58 #[.pointer (some ⟨p,0,none⟩)] fm) (he:bindP l 16 fm s=some (n,s')) :
  Calls Tryz.prog 178 #[.pointer (some ⟨p,0,none⟩)] w (kMk w p l s n s'):=by
 have HpB:Hid (p<w.heap.size):=Lib.hid h.lt
 have hu0:Upto [] w (w.alloc (.cells #[.int .i64 0,.slice none 0 0,.int .i64 0,.int .i64 0,.int .i64 0,.slice none 0 0] 34)):=(Upto.refl [] w).alloc _
 have HR0:=Lib.hid (h.ext hu0)
 have HX0:=Lib.hid (hx.ext hu0)
 have HU0:Hid (Upto [p] w (w.alloc (.cells #[.int .i64 0,.slice none 0 0,.int .i64 0,.int .i64 0,.int .i64 0,.slice none 0 0] 34))):=Lib.hid (hu0.mono (by simp))
 have HNew:Hid ((w.alloc (.cells #[.int .i64 0,.slice none 0 0,.int .i64 0,.int .i64 0,.int .i64 0,.slice none 0 0] 34)).heap[w.heap.size]?=some (.cells #[.int .i64 0,.slice none 0 0,.int .i64 0,.int .i64 0,.int .i64 0,.slice none 0 0] 34 (0,0))):=Lib.hid (kAq _ _)
 have HFM:=Lib.hid (hfm.upto HU0.out)
 clear hx h hu0
 go_enter Tryz.func178,Tryz.ntmps178
 go_wp2_with fail
 refine (bind_calls _ p l s s' n 16 fm HX0.out HR0.out hd hk0 HFM.out he).mono ?_
 rintro e w2 ⟨vv,rfl,hn,hR2,hu2,ha⟩
 obtain⟨oa,na1,na2,na3,sa,ma,qa,la1,la2,la3,rfl⟩:=hn.six
 have hz:=hu2.at HNew.out (by have:=HpB.out;simp;omega)
 obtain⟨z0,z1,z2,z3,z4,z5⟩:=kAx hz
 obtain⟨y0,y1,y2,y3,y4,y5⟩:=kDk hz
 have HZ:=Lib.hid hz
 have HN:=Lib.hid hn
 have HR2:=Lib.hid hR2
 have HU2:=Lib.hid hu2
 have HA:=Lib.hid ha
 clear hn hR2 hu2 ha hz
 go_wp2_with fail
 have hst:=kEz HZ.out (.int .i64 oa) (.slice na1 na2 na3) (.int .i64 sa) (.int .i64 ma) (.int .i64 qa) (.slice la1 la2 la3)
 obtain⟨q0,q1,q2,q3,q4,q5⟩:=kAx hst
 exact bodyPost_ret (v:=.agg #[.int .i64 oa,.slice na1 na2 na3,.int .i64 sa,.int .i64 ma,.int .i64 qa,.slice la1 la2 la3]) (by simp [results,Tryz.results178,go_sem,q0,q1,q2,q3,q4,q5]) rfl (kEx (by omega) (by have:=HpB.out;omega) (HU0.out.trans_same HU2.out) HR2.out HZ.out HA.out HN.out (fun b hb _=>by have h1:=HU0.out.size;have h2:=kAk HNew.out;unfold New at hb ⊢;omega))
theorem every_calls (w:World) (p:Nat) (l:List Tok) (s s':PS) (n:Nd) (fm:Rd) (hx:Cx w p l) (h:RdAt w p l s) (hd:s.dp≤256) (hk0:(tkAt l s).kind≠0) (hfm:Rdr w p l 58 #[.pointer (some ⟨p,0,none⟩)] fm) (he:bindP l 17 fm s=some (n,s')) :
  Calls Tryz.prog 180 #[.pointer (some ⟨p,0,none⟩)] w (kMk w p l s n s'):=by
 have HpB:Hid (p<w.heap.size):=Lib.hid h.lt
 have hu0:Upto [] w (w.alloc (.cells #[.int .i64 0,.slice none 0 0,.int .i64 0,.int .i64 0,.int .i64 0,.slice none 0 0] 34)):=(Upto.refl [] w).alloc _
 have HR0:=Lib.hid (h.ext hu0)
 have HX0:=Lib.hid (hx.ext hu0)
 have HU0:Hid (Upto [p] w (w.alloc (.cells #[.int .i64 0,.slice none 0 0,.int .i64 0,.int .i64 0,.int .i64 0,.slice none 0 0] 34))):=Lib.hid (hu0.mono (by simp))
 have HNew:Hid ((w.alloc (.cells #[.int .i64 0,.slice none 0 0,.int .i64 0,.int .i64 0,.int .i64 0,.slice none 0 0] 34)).heap[w.heap.size]?=some (.cells #[.int .i64 0,.slice none 0 0,.int .i64 0,.int .i64 0,.int .i64 0,.slice none 0 0] 34 (0,0))):=Lib.hid (kAq _ _)
 have HFM:=Lib.hid (hfm.upto HU0.out)
 clear hx h hu0
 go_enter Tryz.func180,Tryz.ntmps180
 go_wp2_with fail
 refine (bind_calls _ p l s s' n 17 fm HX0.out HR0.out hd hk0 HFM.out he).mono ?_
 rintro e w2 ⟨vv,rfl,hn,hR2,hu2,ha⟩
 obtain⟨oa,na1,na2,na3,sa,ma,qa,la1,la2,la3,rfl⟩:=hn.six
 have hz:=hu2.at HNew.out (by have:=HpB.out;simp;omega)
 obtain⟨z0,z1,z2,z3,z4,z5⟩:=kAx hz
 obtain⟨y0,y1,y2,y3,y4,y5⟩:=kDk hz
 have HZ:=Lib.hid hz
 have HN:=Lib.hid hn
 have HR2:=Lib.hid hR2
 have HU2:=Lib.hid hu2
 have HA:=Lib.hid ha
 clear hn hR2 hu2 ha hz
 go_wp2_with fail
 have hst:=kEz HZ.out (.int .i64 oa) (.slice na1 na2 na3) (.int .i64 sa) (.int .i64 ma) (.int .i64 qa) (.slice la1 la2 la3)
 obtain⟨q0,q1,q2,q3,q4,q5⟩:=kAx hst
 exact bodyPost_ret (v:=.agg #[.int .i64 oa,.slice na1 na2 na3,.int .i64 sa,.int .i64 ma,.int .i64 qa,.slice la1 la2 la3]) (by simp [results,Tryz.results180,go_sem,q0,q1,q2,q3,q4,q5]) rfl (kEx (by omega) (by have:=HpB.out;omega) (HU0.out.trans_same HU2.out) HR2.out HZ.out HA.out HN.out (fun b hb _=>by have h1:=HU0.out.size;have h2:=kAk HNew.out;unfold New at hb ⊢;omega))
section
variable {P:Program} (w:World) {ops:Array Oper} {rest:List Oper} {o:Oper} {a:Act} {Q:Exit→Act→World→Prop}
theorem kWz (hg:o.guard=none) (m x v:Operand) (t:TypeId) (hop:o.op=Op.insert t m x v)
  (k e:TypeId) (K:Keyed P k) (ht:P.underlying t=some (.map k e)) (b:Nat) (L:List (Value×Value))
  (hm:a.eval m=.map (some b)) (h:MapL P k w b L) (key val:Value) (l:Lit) (hx:a.eval x=key) (hv:a.eval v=val) (hkey:keyOf P k key=some l) (hnew:∀p∈L,p.1≠key)
  (hK:∀w',MapL P k w' b (L++[(key,val)])→w.grownBy w' (some b)→wpList P ops Q rest (a.put o.dst undef) w') :
  wpList P ops Q (o::rest) a w:=by
 refine wpList_plain hg fun K' hK'=>?_
 obtain⟨w',hrun,r1,r2⟩:=h.insert K ht hkey (v:=val) hnew
 unfold Oper.wp
 simp [execOp,hop,hm,hx,hv,hrun,Result.andThen]
 exact hK' _ _ (hK w' r1 r2)
end
def kOw:List (Value×Value):=[(sb [116,114,117,101],.agg #[.func (.func 170) #[] #[]]),(sb [102,97,108,115,101],.agg #[.func (.func 171) #[] #[]]),(sb [115,105,122,101],.agg #[.func (.func 172) #[] #[]]),(sb [111,110,101],.agg #[.func (.func 174) #[] #[]]),(sb [110,111,116],.agg #[.func (.func 175) #[] #[]]),(sb [115,111,109,101],.agg #[.func (.func 178) #[] #[]]),(sb [101,118,101,114,121],.agg #[.func (.func 180) #[] #[]]),(sb [40],.agg #[.func (.func 181) #[] #[]])]
theorem kLw (w:World):Calls Tryz.prog 160 #[] w fun e w'=>∃b,e=.returned (.map (some b))∧MapL Tryz.prog 9 w' b kOw∧Upto [] w w':=by
 have hm0:=MapL.made Tryz.prog 9 w
 have hmm:=@run_makeMap Tryz.prog
 have k0:keyOf Tryz.prog 9 (.string ⟨#[116,114,117,101]⟩)=some (.string [116,114,117,101]):=by simpa [sb] using kVj (x:=[116,114,117,101]) (by decide)
 have k1:keyOf Tryz.prog 9 (.string ⟨#[102,97,108,115,101]⟩)=some (.string [102,97,108,115,101]):=by simpa [sb] using kVj (x:=[102,97,108,115,101]) (by decide)
 have k2:keyOf Tryz.prog 9 (.string ⟨#[115,105,122,101]⟩)=some (.string [115,105,122,101]):=by simpa [sb] using kVj (x:=[115,105,122,101]) (by decide)
 have k3:keyOf Tryz.prog 9 (.string ⟨#[111,110,101]⟩)=some (.string [111,110,101]):=by simpa [sb] using kVj (x:=[111,110,101]) (by decide)
 have k4:keyOf Tryz.prog 9 (.string ⟨#[110,111,116]⟩)=some (.string [110,111,116]):=by simpa [sb] using kVj (x:=[110,111,116]) (by decide)
 have k5:keyOf Tryz.prog 9 (.string ⟨#[115,111,109,101]⟩)=some (.string [115,111,109,101]):=by simpa [sb] using kVj (x:=[115,111,109,101]) (by decide)
 have k6:keyOf Tryz.prog 9 (.string ⟨#[101,118,101,114,121]⟩)=some (.string [101,118,101,114,121]):=by simpa [sb] using kVj (x:=[101,118,101,114,121]) (by decide)
 have k7:keyOf Tryz.prog 9 (.string ⟨#[40]⟩)=some (.string [40]):=by simpa [sb] using kVj (x:=[40]) (by decide)
 go_enter Tryz.func160,Tryz.ntmps160
 go_wp2_with (first
  | (refine kWz _ rfl _ _ _ 193 rfl 9 191 lawS Tryz.underlying193 w.heap.size [] rfl hm0 (.string ⟨#[116,114,117,101]⟩) (.agg #[.func (.func 170) #[] #[]]) _ rfl rfl k0 (by simp) ?_;intro w1 hm1 hg1)
  | (refine kWz _ rfl _ _ _ 193 rfl 9 191 lawS Tryz.underlying193 w.heap.size [(.string ⟨#[116,114,117,101]⟩,.agg #[.func (.func 170) #[] #[]])] rfl hm1 (.string ⟨#[102,97,108,115,101]⟩) (.agg #[.func (.func 171) #[] #[]]) _ rfl rfl k1 (by simp) ?_;intro w2 hm2 hg2)
  | (refine kWz _ rfl _ _ _ 193 rfl 9 191 lawS Tryz.underlying193 w.heap.size [(.string ⟨#[116,114,117,101]⟩,.agg #[.func (.func 170) #[] #[]]),(.string ⟨#[102,97,108,115,101]⟩,.agg #[.func (.func 171) #[] #[]])] rfl hm2 (.string ⟨#[115,105,122,101]⟩) (.agg #[.func (.func 172) #[] #[]]) _ rfl rfl k2 (by simp) ?_;intro w3 hm3 hg3)
  | (refine kWz _ rfl _ _ _ 193 rfl 9 191 lawS Tryz.underlying193 w.heap.size [(.string ⟨#[116,114,117,101]⟩,.agg #[.func (.func 170) #[] #[]]),(.string ⟨#[102,97,108,115,101]⟩,.agg #[.func (.func 171) #[] #[]]),(.string ⟨#[115,105,122,101]⟩,.agg #[.func (.func 172) #[] #[]])] rfl hm3 (.string ⟨#[111,110,101]⟩) (.agg #[.func (.func 174) #[] #[]]) _ rfl rfl k3 (by simp) ?_;intro w4 hm4 hg4)
  | (refine kWz _ rfl _ _ _ 193 rfl 9 191 lawS Tryz.underlying193 w.heap.size [(.string ⟨#[116,114,117,101]⟩,.agg #[.func (.func 170) #[] #[]]),(.string ⟨#[102,97,108,115,101]⟩,.agg #[.func (.func 171) #[] #[]]),(.string ⟨#[115,105,122,101]⟩,.agg #[.func (.func 172) #[] #[]]),(.string ⟨#[111,110,101]⟩,.agg #[.func (.func 174) #[] #[]])] rfl hm4 (.string ⟨#[110,111,116]⟩) (.agg #[.func (.func 175) #[] #[]]) _ rfl rfl k4 (by simp) ?_;intro w5 hm5 hg5)
  | (refine kWz _ rfl _ _ _ 193 rfl 9 191 lawS Tryz.underlying193 w.heap.size [(.string ⟨#[116,114,117,101]⟩,.agg #[.func (.func 170) #[] #[]]),(.string ⟨#[102,97,108,115,101]⟩,.agg #[.func (.func 171) #[] #[]]),(.string ⟨#[115,105,122,101]⟩,.agg #[.func (.func 172) #[] #[]]),(.string ⟨#[111,110,101]⟩,.agg #[.func (.func 174) #[] #[]]),(.string ⟨#[110,111,116]⟩,.agg #[.func (.func 175) #[] #[]])] rfl hm5 (.string ⟨#[115,111,109,101]⟩) (.agg #[.func (.func 178) #[] #[]]) _ rfl rfl k5 (by simp) ?_;intro w6 hm6 hg6)
  | (refine kWz _ rfl _ _ _ 193 rfl 9 191 lawS Tryz.underlying193 w.heap.size [(.string ⟨#[116,114,117,101]⟩,.agg #[.func (.func 170) #[] #[]]),(.string ⟨#[102,97,108,115,101]⟩,.agg #[.func (.func 171) #[] #[]]),(.string ⟨#[115,105,122,101]⟩,.agg #[.func (.func 172) #[] #[]]),(.string ⟨#[111,110,101]⟩,.agg #[.func (.func 174) #[] #[]]),(.string ⟨#[110,111,116]⟩,.agg #[.func (.func 175) #[] #[]]),(.string ⟨#[115,111,109,101]⟩,.agg #[.func (.func 178) #[] #[]])] rfl hm6 (.string ⟨#[101,118,101,114,121]⟩) (.agg #[.func (.func 180) #[] #[]]) _ rfl rfl k6 (by simp) ?_;intro w7 hm7 hg7)
  | (refine kWz _ rfl _ _ _ 193 rfl 9 191 lawS Tryz.underlying193 w.heap.size [(.string ⟨#[116,114,117,101]⟩,.agg #[.func (.func 170) #[] #[]]),(.string ⟨#[102,97,108,115,101]⟩,.agg #[.func (.func 171) #[] #[]]),(.string ⟨#[115,105,122,101]⟩,.agg #[.func (.func 172) #[] #[]]),(.string ⟨#[111,110,101]⟩,.agg #[.func (.func 174) #[] #[]]),(.string ⟨#[110,111,116]⟩,.agg #[.func (.func 175) #[] #[]]),(.string ⟨#[115,111,109,101]⟩,.agg #[.func (.func 178) #[] #[]]),(.string ⟨#[101,118,101,114,121]⟩,.agg #[.func (.func 180) #[] #[]])] rfl hm7 (.string ⟨#[40]⟩) (.agg #[.func (.func 181) #[] #[]]) _ rfl rfl k7 (by simp) ?_;intro w8 hm8 hg8))
 have hu:Upto [w.heap.size] (w.alloc (.map #[] 0)) w8:=(((((((((Upto.refl _ _).grown hg1 (fun k hk=>by cases hk;simp)).grown hg2 (fun k hk=>by cases hk;simp)).grown hg3 (fun k hk=>by cases hk;simp)).grown hg4 (fun k hk=>by cases hk;simp)).grown hg5 (fun k hk=>by cases hk;simp)).grown hg6 (fun k hk=>by cases hk;simp)).grown hg7 (fun k hk=>by cases hk;simp)).grown hg8 (fun k hk=>by cases hk;simp))
 have hu2:Upto [] w w8:=((Upto.refl [] w).alloc _).trans hu (fun k hk=>by simp at hk;subst hk;right;exact Nat.le_refl _)
 go_ret
 exact⟨_,rfl,hm8,hu2⟩
theorem zeroP (w:World):(zeroValue 191).run Tryz.prog w=.ok (.agg #[.nilFunc]) w:=by kernel_rfl
theorem piece_no {w:World} {b:Nat} (h:MapL Tryz.prog 9 w b kOw) (x:List UInt8) (hl:x.length≤9223372036854775807) (hn:∀p∈kOw,p.1≠sb x):(Instr.lookup 193 (.map (some b)) (.string ⟨x.toArray⟩) true).run Tryz.prog w=.ok (.tuple #[.agg #[.nilFunc],.bool false]) w:=by
 rcases h.look lawS Tryz.underlying193 (zeroP w) (kVj hl) true with⟨h1,h2⟩ | ⟨v,h1,h2⟩
 ·simpa [sb] using h1
 ·exact absurd rfl (hn _ h1)
theorem piece_116 {w:World} {b:Nat} (h:MapL Tryz.prog 9 w b kOw):(Instr.lookup 193 (.map (some b)) (.string ⟨[116,114,117,101].toArray⟩) true).run Tryz.prog w=.ok (.tuple #[.agg #[.func (.func 170) #[] #[]],.bool true]) w:=by
 rcases h.look lawS Tryz.underlying193 (zeroP w) (kVj (x:=[116,114,117,101]) (by decide)) true with⟨h1,h2⟩ | ⟨v,h1,h2⟩
 ·exact absurd rfl (h2 (sb [116,114,117,101],.agg #[.func (.func 170) #[] #[]]) (by simp [kOw]))
 ·have:v=.agg #[.func (.func 170) #[] #[]]:=by simpa [kOw,sb] using h1
  subst this
  simpa [sb] using h2
theorem piece_117 {w:World} {b:Nat} (h:MapL Tryz.prog 9 w b kOw):(Instr.lookup 193 (.map (some b)) (.string ⟨[102,97,108,115,101].toArray⟩) true).run Tryz.prog w=.ok (.tuple #[.agg #[.func (.func 171) #[] #[]],.bool true]) w:=by
 rcases h.look lawS Tryz.underlying193 (zeroP w) (kVj (x:=[102,97,108,115,101]) (by decide)) true with⟨h1,h2⟩ | ⟨v,h1,h2⟩
 ·exact absurd rfl (h2 (sb [102,97,108,115,101],.agg #[.func (.func 171) #[] #[]]) (by simp [kOw]))
 ·have:v=.agg #[.func (.func 171) #[] #[]]:=by simpa [kOw,sb] using h1
  subst this
  simpa [sb] using h2
theorem piece_118 {w:World} {b:Nat} (h:MapL Tryz.prog 9 w b kOw):(Instr.lookup 193 (.map (some b)) (.string ⟨[115,105,122,101].toArray⟩) true).run Tryz.prog w=.ok (.tuple #[.agg #[.func (.func 172) #[] #[]],.bool true]) w:=by
 rcases h.look lawS Tryz.underlying193 (zeroP w) (kVj (x:=[115,105,122,101]) (by decide)) true with⟨h1,h2⟩ | ⟨v,h1,h2⟩
 ·exact absurd rfl (h2 (sb [115,105,122,101],.agg #[.func (.func 172) #[] #[]]) (by simp [kOw]))
 ·have:v=.agg #[.func (.func 172) #[] #[]]:=by simpa [kOw,sb] using h1
  subst this
  simpa [sb] using h2
theorem piece_120 {w:World} {b:Nat} (h:MapL Tryz.prog 9 w b kOw):(Instr.lookup 193 (.map (some b)) (.string ⟨[111,110,101].toArray⟩) true).run Tryz.prog w=.ok (.tuple #[.agg #[.func (.func 174) #[] #[]],.bool true]) w:=by
 rcases h.look lawS Tryz.underlying193 (zeroP w) (kVj (x:=[111,110,101]) (by decide)) true with⟨h1,h2⟩ | ⟨v,h1,h2⟩
 ·exact absurd rfl (h2 (sb [111,110,101],.agg #[.func (.func 174) #[] #[]]) (by simp [kOw]))
 ·have:v=.agg #[.func (.func 174) #[] #[]]:=by simpa [kOw,sb] using h1
  subst this
  simpa [sb] using h2
theorem piece_121 {w:World} {b:Nat} (h:MapL Tryz.prog 9 w b kOw):(Instr.lookup 193 (.map (some b)) (.string ⟨[110,111,116].toArray⟩) true).run Tryz.prog w=.ok (.tuple #[.agg #[.func (.func 175) #[] #[]],.bool true]) w:=by
 rcases h.look lawS Tryz.underlying193 (zeroP w) (kVj (x:=[110,111,116]) (by decide)) true with⟨h1,h2⟩ | ⟨v,h1,h2⟩
 ·exact absurd rfl (h2 (sb [110,111,116],.agg #[.func (.func 175) #[] #[]]) (by simp [kOw]))
 ·have:v=.agg #[.func (.func 175) #[] #[]]:=by simpa [kOw,sb] using h1
  subst this
  simpa [sb] using h2
theorem piece_124 {w:World} {b:Nat} (h:MapL Tryz.prog 9 w b kOw):(Instr.lookup 193 (.map (some b)) (.string ⟨[115,111,109,101].toArray⟩) true).run Tryz.prog w=.ok (.tuple #[.agg #[.func (.func 178) #[] #[]],.bool true]) w:=by
 rcases h.look lawS Tryz.underlying193 (zeroP w) (kVj (x:=[115,111,109,101]) (by decide)) true with⟨h1,h2⟩ | ⟨v,h1,h2⟩
 ·exact absurd rfl (h2 (sb [115,111,109,101],.agg #[.func (.func 178) #[] #[]]) (by simp [kOw]))
 ·have:v=.agg #[.func (.func 178) #[] #[]]:=by simpa [kOw,sb] using h1
  subst this
  simpa [sb] using h2
theorem piece_126 {w:World} {b:Nat} (h:MapL Tryz.prog 9 w b kOw):(Instr.lookup 193 (.map (some b)) (.string ⟨[101,118,101,114,121].toArray⟩) true).run Tryz.prog w=.ok (.tuple #[.agg #[.func (.func 180) #[] #[]],.bool true]) w:=by
 rcases h.look lawS Tryz.underlying193 (zeroP w) (kVj (x:=[101,118,101,114,121]) (by decide)) true with⟨h1,h2⟩ | ⟨v,h1,h2⟩
 ·exact absurd rfl (h2 (sb [101,118,101,114,121],.agg #[.func (.func 180) #[] #[]]) (by simp [kOw]))
 ·have:v=.agg #[.func (.func 180) #[] #[]]:=by simpa [kOw,sb] using h1
  subst this
  simpa [sb] using h2
theorem piece_127 {w:World} {b:Nat} (h:MapL Tryz.prog 9 w b kOw):(Instr.lookup 193 (.map (some b)) (.string ⟨[40].toArray⟩) true).run Tryz.prog w=.ok (.tuple #[.agg #[.func (.func 181) #[] #[]],.bool true]) w:=by
 rcases h.look lawS Tryz.underlying193 (zeroP w) (kVj (x:=[40]) (by decide)) true with⟨h1,h2⟩ | ⟨v,h1,h2⟩
 ·exact absurd rfl (h2 (sb [40],.agg #[.func (.func 181) #[] #[]]) (by simp [kOw]))
 ·have:v=.agg #[.func (.func 181) #[] #[]]:=by simpa [kOw,sb] using h1
  subst this
  simpa [sb] using h2
end Go.Proofs.YtkhbpebpljdifaaGreatDoor
namespace Go.Proofs.YtkhbpebpljdifaaGreatDoor
open Go.RowKit Go.PL Go.Maps
theorem numberP_range (l:List Tok) (a z:Int) (s:PS) (_h0:a≤0∨True) (hz:0≤z):0≤(kHq l a z s).1∧(kHq l a z s).1≤max z 0:=by
 unfold kHq
 by_cases hk:(tkAt l s).kind=2
 ·simp only [if_pos hk]
  by_cases hr:((tkAt l s).val:Int)<a∨z<(tkAt l s).val
  ·simp only [if_pos hr,if_neg (kLk (by decide:(2:Nat)≠0) s)]
   omega
  ·simp only [if_neg hr]
   by_cases he:s.er=0
   ·simp only [if_pos he]
    omega
   ·simp only [if_neg he]
    omega
 ·simp only [if_neg hk,if_neg (kLk (by decide:(3:Nat)≠0) s)]
  omega
theorem size_calls (w:World) (p:Nat) (l:List Tok) (s s':PS) (n:Nd) (hx:Cx w p l) (h:RdAt w p l s) (_hd:s.dp≤256) (hk0:(tkAt l s).kind≠0) (he:some (sizeP l s)=some (n,s')) :
  Calls Tryz.prog 172 #[.pointer (some ⟨p,0,none⟩)] w (kMk w p l s n s'):=by
 have HpB:Hid (p<w.heap.size):=Lib.hid h.lt
 have hu0:Upto [] w (w.alloc (.cells #[.int .i64 0,.slice none 0 0,.int .i64 0,.int .i64 0,.int .i64 0,.slice none 0 0] 34)):=(Upto.refl [] w).alloc _
 have HR0:=Lib.hid (h.ext hu0)
 have HX0:=Lib.hid (hx.ext hu0)
 have HU0:Hid (Upto [p] w (w.alloc (.cells #[.int .i64 0,.slice none 0 0,.int .i64 0,.int .i64 0,.int .i64 0,.slice none 0 0] 34))):=Lib.hid (hu0.mono (by simp))
 have HNew:Hid ((w.alloc (.cells #[.int .i64 0,.slice none 0 0,.int .i64 0,.int .i64 0,.int .i64 0,.slice none 0 0] 34)).heap[w.heap.size]?=some (.cells #[.int .i64 0,.slice none 0 0,.int .i64 0,.int .i64 0,.int .i64 0,.slice none 0 0] 34 (0,0))):=Lib.hid (kAq _ _)
 have hin:=h.inb
 have hlen:=hx.len
 have hn0:(0:Int)≤s.nx:=by omega
 have hn1:(s.nx:Int)≤1000000:=by omega
 have HF:Hid (Fin l):=Lib.hid h.fin
 obtain⟨⟨v,hb,-,-⟩,-,-⟩:=id HR0.out
 have b1:=kAz hb 1
 have f1:=kDx hb 1
 unfold rdC at b1
 simp only [List.getElem?_toArray,List.getElem?_cons_zero,List.getElem?_cons_succ] at b1
 have h1:=HR0.out.step hk0
 have hz:=h1.2.at HNew.out (by have:=HpB.out;simp;omega)
 have HR1:=Lib.hid h1.1
 have HU1:=Lib.hid h1.2
 have HZ1:=Lib.hid hz
 have HK0:=Lib.hid hk0
 clear h hu0 hz h1 hk0 hb
 go_enter Tryz.func172,Tryz.ntmps172
 go_wp2_with fail
 refine (kMx _ p l (kBx s) HR1.out hx.len).mono ?_
 clear b1 f1
 rintro e w2 ⟨rfl,hR2,hu2⟩
 have HU2:=Lib.hid ((HU0.out.trans_same HU1.out).trans_same hu2)
 have HZ2:=Lib.hid (hu2.at HZ1.out (by have:=HpB.out;simp;omega))
 have HR2:=Lib.hid hR2
 clear hR2 hu2
 go_wp2_with fail
 obtain⟨W3,g,Bn,hW3,hg,hBn,hnB,hgg,hzB,hu3,hR3,hord⟩:∃W3 g Bn,W3=(w2.alloc (.cells #[.string ⟨(kAj l (kBx s)).1.toArray⟩] 9)).alloc (.cells #[.int .i64 8,.slice (some ⟨w2.heap.size,0,none⟩) 1 1,.int .i64 0,.int .i64 0,.int .i64 0,.slice none 0 0] 34)∧g=w2.heap.size∧Bn=w2.heap.size+1 ∧
   W3.heap[Bn]?=some (.cells #[.int .i64 8,.slice (some ⟨g,0,none⟩) 1 1,.int .i64 0,.int .i64 0,.int .i64 0,.slice none 0 0] 34 (0,0))∧W3.heap[g]?=some (.cells #[.string ⟨(kAj l (kBx s)).1.toArray⟩] 9 (0,0))∧W3.heap[w.heap.size]?=some (.cells #[.int .i64 0,.slice none 0 0,.int .i64 0,.int .i64 0,.int .i64 0,.slice none 0 0] 34 (0,0))∧Upto [p] w W3∧RdAt W3 p l (kAj l (kBx s)).2∧(p<w.heap.size∧w.heap.size<g∧g<Bn) :=
  ⟨_,_,_,rfl,rfl,rfl,kFz _ _ _,kCx (kAq _ _) _,kCx (kCx HZ2.out _) _,(HU2.out.alloc _).alloc _,(HR2.out.ext ((Upto.refl [] w2).alloc _)).ext ((Upto.refl [] _).alloc _),HpB.out,kAk HZ2.out,Nat.lt_succ_self _⟩
 rw [←hW3,←hBn]
 try rw [←hg]
 clear hW3 hg hBn HR2 HZ2 HU2 HR1 HZ1 HU1
 have HN:=Lib.hid hnB
 have HG:=Lib.hid hgg
 have HZ:=Lib.hid hzB
 have HU:=Lib.hid hu3
 have HR:=Lib.hid hR3
 have HO:=Lib.hid hord
 clear hnB hgg hzB hu3 hR3 hord
 refine (kSk _ p l _ [109,111,100] HR.out hx.len).mono ?_
 rintro e w4 ⟨rfl,hR,hu⟩
 have HN:=Lib.hid (hu.at HN.out (by have:=HO.out;simp;omega))
 have HG:=Lib.hid (hu.at HG.out (by have:=HO.out;simp;omega))
 have HZ:=Lib.hid (hu.at HZ.out (by have:=HO.out;simp;omega))
 have HU:=Lib.hid (HU.out.trans_same hu)
 have HR:=Lib.hid hR
 clear hR hu
 go_wp2_with fail
 refine (number_callsP _ p 1 64 l _ HR.out hx.len).mono ?_
 rintro e w5 ⟨rfl,hR,hu⟩
 have HN:=Lib.hid (hu.at HN.out (by have:=HO.out;simp;omega))
 have HG:=Lib.hid (hu.at HG.out (by have:=HO.out;simp;omega))
 have HZ:=Lib.hid (hu.at HZ.out (by have:=HO.out;simp;omega))
 have HU:=Lib.hid (HU.out.trans_same hu)
 have HR:=Lib.hid hR
 clear hR hu
 obtain⟨m,hm⟩:∃m,m=(kHq l 1 64 (kPj l [109,111,100] (kAj l (kBx s)).2)).1:=⟨_,rfl⟩
 have hm0:=numberP_range l 1 64 (kPj l [109,111,100] (kAj l (kBx s)).2) (Or.inr trivial) (by decide)
 rw [←hm] at hm0 ⊢
 have hn5:=HN.out
 obtain⟨c0,c1,c2,c3,c4,c5⟩:=kAx hn5
 obtain⟨d0,d1,d2,d3,d4,d5⟩:=kDk hn5
 have hs6:=(Upto.refl [Bn] w5).setCell (p:=⟨Bn,4,none⟩) (Or.inl (by simp)) (.int .i64 m)
 have hn6:=kCw hn5 4 (.int .i64 m)
 simp only [List.setIfInBounds_toArray,List.set_cons_zero,List.set_cons_succ] at hn6
 have HR:=Lib.hid (HR.out.other hn5 (kPz (by simp) (by simp)) hs6 (by have:=HO.out;omega))
 have HG:=Lib.hid (hs6.at HG.out (by have:=HO.out;simp;omega))
 have HZ:=Lib.hid (hs6.at HZ.out (by have:=HO.out;simp;omega))
 have HU:=Lib.hid (HU.out.setCell (p:=⟨Bn,4,none⟩) (Or.inr (by have:=HO.out;simp;omega)) (.int .i64 m))
 have HN:=Lib.hid hn6
 clear hn5 hn6 hs6
 have hm1:(0:Int)≤m:=hm0.1
 have hm2:m≤64:=by have:=hm0.2;omega
 have HM:=Lib.hid hm
 clear hm0 hm
 go_wp2_with fail
 clear c0 c1 c2 c3 c4 c5 d0 d1 d2 d3 d4 d5
 refine (kSk _ p l _ [105,115] HR.out hx.len).mono ?_
 rintro e w6 ⟨rfl,hR,hu⟩
 have HN:=Lib.hid (hu.at HN.out (by have:=HO.out;simp;omega))
 have HG:=Lib.hid (hu.at HG.out (by have:=HO.out;simp;omega))
 have HZ:=Lib.hid (hu.at HZ.out (by have:=HO.out;simp;omega))
 have HU:=Lib.hid (HU.out.trans_same hu)
 have HR:=Lib.hid hR
 clear hR hu
 have hn6:=HN.out
 obtain⟨c0,c1,c2,c3,c4,c5⟩:=kAx hn6
 obtain⟨d0,d1,d2,d3,d4,d5⟩:=kDk hn6
 go_wp2_with fail
 clear c0 c1 c2 c3 c4 c5 d0 d1 d2 d3 d4 d5 hn6
 refine (number_callsP _ p 0 (m-1) l _ HR.out hx.len).mono ?_
 rintro e w7 ⟨rfl,hR,hu⟩
 have HN:=Lib.hid (hu.at HN.out (by have:=HO.out;simp;omega))
 have HG:=Lib.hid (hu.at HG.out (by have:=HO.out;simp;omega))
 have HZ:=Lib.hid (hu.at HZ.out (by have:=HO.out;simp;omega))
 have HU:=Lib.hid (HU.out.trans_same hu)
 have HR:=Lib.hid hR
 clear hR hu
 obtain⟨q,hq⟩:∃q,q=(kHq l 0 (m-1) (kPj l [105,115] (kHq l 1 64 (kPj l [109,111,100] (kAj l (kBx s)).2)).2)).1:=⟨_,rfl⟩
 rw [←hq]
 have HQ:=Lib.hid hq
 clear hq
 have hn7:=HN.out
 obtain⟨c0,c1,c2,c3,c4,c5⟩:=kAx hn7
 obtain⟨d0,d1,d2,d3,d4,d5⟩:=kDk hn7
 have hs8:=(Upto.refl [Bn] w7).setCell (p:=⟨Bn,3,none⟩) (Or.inl (by simp)) (.int .i64 q)
 have hn8:=kCw hn7 3 (.int .i64 q)
 simp only [List.setIfInBounds_toArray,List.set_cons_zero,List.set_cons_succ] at hn8
 have HR:=Lib.hid (HR.out.other hn7 (kPz (by simp) (by simp)) hs8 (by have:=HO.out;omega))
 have hg8:=hs8.at HG.out (by have:=HO.out;simp;omega)
 have hz8:=hs8.at HZ.out (by have:=HO.out;simp;omega)
 have HU:=Lib.hid (HU.out.setCell (p:=⟨Bn,3,none⟩) (Or.inr (by have:=HO.out;simp;omega)) (.int .i64 q))
 obtain⟨x0,x1,x2,x3,x4,x5⟩:=kAx hn8
 obtain⟨u0,u1,u2,u3,u4,u5⟩:=kDk hn8
 obtain⟨z0,z1,z2,z3,z4,z5⟩:=kAx hz8
 obtain⟨y0,y1,y2,y3,y4,y5⟩:=kDk hz8
 have HZ:=Lib.hid hz8
 have HG:=Lib.hid hg8
 have HA:Hid (Adv l s (sizeP l s).2):=Lib.hid (by
  have a0:=Adv.step HF.out hin HK0.out
  have a1:=(kEq HF.out a0.lt).1
  have a2:=kNq HF.out (x:=[109,111,100]) a1.lt
  have a3:=numberP_adv HF.out (a:=1) (z:=64) a2.lt
  have a4:=kNq HF.out (x:=[105,115]) a3.lt
  have a5:=numberP_adv HF.out (a:=0) (z:=(kHq l 1 64 (kPj l [109,111,100] (kAj l (kBx s)).2)).1-1) a4.lt
  exact a0.trans (a1.trans (a2.trans (a3.trans (a4.trans a5)))))
 clear hn7 hn8 hs8 hg8 hz8 hx
 go_wp2_with fail
 have ho:=HO.out
 have hE:n=Nd.mk 8 [(kAj l (kBx s)).1] 0 q m []∧s'=(sizeP l s).2:=by
  cases he
  have hm:=HM.out
  have hq:=HQ.out
  subst hm hq
  exact⟨rfl,rfl⟩
 obtain⟨rfl,rfl⟩:=hE
 have HRF:Hid (RdAt (w7.setCell ⟨Bn,3,none⟩ (.int .i64 q)) p l (sizeP l s).2):=Lib.hid (by
  have:=HR.out
  have hm:=HM.out
  subst hm
  exact this)
 have hst:=kEz HZ.out (.int .i64 8) (.slice (some ⟨g,0,none⟩) 1 1) (.int .i64 0) (.int .i64 q) (.int .i64 m) (.slice none 0 0)
 obtain⟨q0,q1,q2,q3,q4,q5⟩:=kAx hst
 exact bodyPost_ret (v:=.agg #[.int .i64 8,.slice (some ⟨g,0,none⟩) 1 1,.int .i64 0,.int .i64 q,.int .i64 m,.slice none 0 0]) (by simp [results,Tryz.results172,go_sem,q0,q1,q2,q3,q4,q5]) rfl (kEx (P:=fun b=>New w b∧b≠w.heap.size) (Nat.le_refl _) HpB.out HU.out HRF.out HZ.out HA.out
  (NdV.atom (names:=[(kAj l (kBx s)).1]) (SlP.block (xs:=[sV (kAj l (kBx s)).1]) ⟨by unfold New;omega,by omega⟩ HG.out 1 1 (fun j u hj=>by match j,hj with | 0,hj=>simpa [sV] using hj))) (fun b hb _=>hb))
theorem row_one {w:World} {g:Nat} {x:Value} {e:TypeId} (h:w.heap[g]?=some (.cells #[x] e (0,0))):w.ownsRow 0 e 1 (.slice (some ⟨g,0,none⟩) 1 1) 1 [x] :=
 ⟨rfl,Or.inr ⟨g,1,#[x],rfl,Nat.zero_le _,h,Nat.le_refl _,by unfold maxLen;omega,rfl,rfl⟩⟩
theorem SlP.of_row {w:World} {P:Nat→Prop} {e:TypeId} {v:Value} {n:Nat} {xs:List Value} (h:w.ownsRow 0 e 1 v n xs) (hP:∀g,v.ownBlock=some g→P g):SlP w P v n xs:=by
 rcases h.2 with⟨rfl,rfl⟩ | ⟨g,cap,cur,rfl,_,hh,hnc,_,_,ht⟩
 ·exact Or.inl ⟨rfl,List.eq_nil_of_length_eq_zero (by simpa using h.1),none,0,rfl⟩
 ·refine Or.inr ⟨g,0,cap,rfl,⟨hP g rfl,⟨_,_,_,hh⟩,hnc⟩,?_⟩
  intro j u hj
  rw [kAz hh,Nat.zero_add]
  rw [←ht,List.getElem?_take] at hj
  split at hj
  ·simpa using hj
  ·cases hj
structure CallI (w:World) (p Bn:Nat) (l:List Tok) (s t:PS) (xs:List (List UInt8)) (v:Value) (wr:World):Prop where
 rd:RdAt wr p l t
 up:Upto [p] w wr
 adv:Adv l s t
 z:wr.heap[w.heap.size]?=some (.cells #[.int .i64 0,.slice none 0 0,.int .i64 0,.int .i64 0,.int .i64 0,.slice none 0 0] 34 (0,0))
 nb:wr.heap[Bn]?=some (.cells #[.int .i64 10,v,.int .i64 0,.int .i64 0,.int .i64 0,.slice none 0 0] 34 (0,0))
 row:wr.ownsRow 0 9 1 v xs.length (xs.map sV)
 own:∀g,v.ownBlock=some g→w.heap.size<g∧g≠Bn
 ne:p<w.heap.size∧w.heap.size<Bn
theorem CallI.go {w:World} {p Bn:Nat} {l:List Tok} {s t t':PS} {xs:List (List UInt8)} {v:Value} {wr wr':World} (h:CallI w p Bn l s t xs v wr) (hu:Upto [p] wr wr') (hR:RdAt wr' p l t') (ha:Adv l t t'):CallI w p Bn l s t' xs v wr':=by
 have h1:=h.ne
 refine⟨hR,h.up.trans_same hu,h.adv.trans ha,hu.at h.z (by simp;omega),hu.at h.nb (by simp;omega),kIx h.row hu (fun g hg=>by have:=h.own g hg;simp;omega),h.own,h.ne⟩
theorem CallI.app {w:World} {p Bn:Nat} {l:List Tok} {s t:PS} {xs:List (List UInt8)} {v:Value} {wr w5:World} {x:List UInt8} {b':Option Addr} {n' c':Nat} {T:TypeId} (h:CallI w p Bn l s t xs v wr) (hn:n'=xs.length+1)
  (hg:Grew (wr.alloc (.cells #[.string ⟨x.toArray⟩] T)) w5 9 1 v (.slice b' n' c') n' (xs.map sV++[.string ⟨x.toArray⟩])):CallI w p Bn l s t (xs++[x]) (.slice b' n' c') (w5.setCell ⟨Bn,1,none⟩ (.slice b' n' c'))∧w5.heap[Bn]?=some (.cells #[.int .i64 10,v,.int .i64 0,.int .i64 0,.int .i64 0,.slice none 0 0] 34 (0,0)):=by
 subst hn
 have h1:=h.ne
 have hua:Upto [] wr (wr.alloc (.cells #[.string ⟨x.toArray⟩] T)):=(Upto.refl [] wr).alloc _
 have hvs:∀g∈v.ownBlock.toList,w.heap.size<g∧g≠Bn:=fun g hm=>h.own g (Option.mem_toList.1 hm)
 have hu:=hg.up
 have hnb:=hu.at (hua.at h.nb (by simp)) (fun hm=>(hvs _ hm).2 rfl)
 have hz:=hu.at (hua.at h.z (by simp)) (fun hm=>by have:=(hvs _ hm).1;omega)
 have hst:Upto [Bn] w5 (w5.setCell ⟨Bn,1,none⟩ (.slice b' (xs.length+1) c')):=(Upto.refl [Bn] w5).setCell (p:=⟨Bn,1,none⟩) (Or.inl (by simp)) _
 have hR5:RdAt w5 p l t:=(h.rd.ext hua).above hu (fun k hk=>by have:=(hvs k hk).1;omega)
 have hn2:=hg.own
 have hsz:w.heap.size<(wr.alloc (.cells #[.string ⟨x.toArray⟩] T)).heap.size:=kAk (hua.at h.z (by simp))
 refine⟨⟨hR5.above hst (fun k hk=>by simp at hk;omega),?_,h.adv,hst.at hz (by simp;omega),?_,?_,?_,h.ne⟩,hnb⟩
 ·exact ((h.up.trans_ext hua).trans hu (fun k hk=>Or.inr (by have:=(hvs k hk).1;omega))).setCell (Or.inr (by simp;omega)) _
 ·have:=kCw hnb 1 (.slice b' (xs.length+1) c')
  simpa using this
 ·have hr:=hg.row
  rw [List.map_append,List.length_append]
  refine kIx hr hst (fun g hgo=>?_)
  rcases hn2 g hgo with h2 | h2
  ·have:=(h.own g h2).2;simpa using this
  ·have h3:=kAk (hua.at h.nb (by simp));simp;omega
 ·intro g hgo
  rcases hn2 g hgo with h2 | h2
  ·exact h.own g h2
  ·have h3:=kAk (hua.at h.nb (by simp));exact⟨by omega,by omega⟩
theorem info9:(Tryz.prog.info? 9).map (fun i=>(i.zero,i.size,i.bytes))=some (some (.string ⟨#[]⟩),1,16):=by kernel_rfl
theorem identR_kind {l:List Tok} {s:PS} (h:(kAj l s).2.er=0):(tkAt l s).kind=1:=by
 unfold kAj at h
 by_cases hk:(tkAt l s).kind=1
 ·exact hk
 ·simp only [if_neg hk,if_neg (kLk (by decide:(3:Nat)≠0) s)] at h
  exact absurd h (kLk (by decide) s)
theorem info9':∃i,Tryz.prog.info? 9=some i∧i.zero=some (.string ⟨#[]⟩)∧i.size=1∧i.bytes=16:=by
 have h:=info9
 cases hi:Tryz.prog.info? 9 with
 | none=>rw [hi] at h;cases h
 | some i =>
  rw [hi] at h
  simp only [Option.map_some,Option.some.injEq,Prod.mk.injEq] at h
  exact⟨i,rfl,h.1,h.2.1,h.2.2⟩
theorem call_calls (w:World) (p:Nat) (l:List Tok) (s s':PS) (n:Nd) (f:List UInt8) (hx:Cx w p l) (h:RdAt w p l s) (_hd:s.dp≤256) (hk0:(tkAt l s).kind≠0) (he:callP l f s=some (n,s')) :
  Calls Tryz.prog 183 #[.pointer (some ⟨p,0,none⟩),.string ⟨f.toArray⟩] w (kMk w p l s n s'):=by
 have hlen:=hx.len
 have hin:=h.inb
 have HF:Hid (Fin l):=Lib.hid h.fin
 have HpB:Hid (p<w.heap.size):=Lib.hid h.lt
 have hu0:Upto [] w (((w.alloc (.cells #[.int .i64 0,.slice none 0 0,.int .i64 0,.int .i64 0,.int .i64 0,.slice none 0 0] 34)).alloc (.cells #[.string ⟨f.toArray⟩] 9)).alloc (.cells #[.int .i64 10,.slice (some ⟨w.heap.size+1,0,none⟩) 1 1,.int .i64 0,.int .i64 0,.int .i64 0,.slice none 0 0] 34)):=(((Upto.refl [] w).alloc _).alloc _).alloc _
 have hR1:=h.ext hu0
 obtain⟨⟨vr,hb,-,-⟩,-,-⟩:=id hR1
 have b1:=kAz hb 1
 have f1:=kDx hb 1
 unfold rdC at b1
 simp only [List.getElem?_toArray,List.getElem?_cons_zero,List.getElem?_cons_succ] at b1
 have hn0:(0:Int)≤s.nx:=by omega
 have hn1:(s.nx:Int)≤1000000:=by omega
 have h2:=hR1.step hk0
 have HI:Hid (CallI w p (w.heap.size+1+1) l s (kBx s) [f] (.slice (some ⟨w.heap.size+1,0,none⟩) 1 1) ((((w.alloc (.cells #[.int .i64 0,.slice none 0 0,.int .i64 0,.int .i64 0,.int .i64 0,.slice none 0 0] 34)).alloc (.cells #[.string ⟨f.toArray⟩] 9)).alloc (.cells #[.int .i64 10,.slice (some ⟨w.heap.size+1,0,none⟩) 1 1,.int .i64 0,.int .i64 0,.int .i64 0,.slice none 0 0] 34)).setCell ⟨p,1,none⟩ (.int .i64 ((s.nx:Int)+1)))):=Lib.hid (by
  have hp:=HpB.out
  refine⟨h2.1,(hu0.mono (by simp)).trans_same h2.2,Adv.step HF.out hin hk0,h2.2.at (kCx (kCx (kAq _ _) _) _) (by simp;omega),h2.2.at (new_at2 _ _ _ _) (by simp;omega),row_one (h2.2.at (kCx (kFz _ _ _) _) (by simp;omega)),?_,hp,by omega⟩
  intro g hg
  simp [Value.ownBlock] at hg
  omega)
 clear hx h hu0 hR1 hb h2
 cases hq:isF l [41] (kBx s) with
 | true =>
  have HC:=Lib.hid (kEj _ p l (kBx s) [41] HI.out.rd hlen)
  rw [hq] at HC
  have HT:Hid ((kDz l [41] (kBx s)).2=kBx (kBx s)):=Lib.hid (by unfold kDz;rw [if_pos hq])
  have HV:Hid (n=Nd.mk 10 [f] 0 0 0 []∧s'=kBx (kBx s)):=Lib.hid (by
   unfold callP at he
   simp only [hq,if_true] at he
   cases he
   exact⟨rfl,rfl⟩)
  have HA:=Lib.hid (Adv.step HF.out HI.out.rd.inb (kRx hq))
  clear he hk0 hq
  go_enter Tryz.func183,Tryz.ntmps183
  go_wp2_with fail
  refine HC.out.mono ?_
  clear b1 f1
  rintro e w3 ⟨rfl,hR3,hu3⟩
  rw [HT.out] at hR3
  have HI3:=Lib.hid (HI.out.go hu3 hR3 HA.out)
  clear hR3 hu3 HC HI
  obtain⟨rfl,rfl⟩:=HV.out
  have hnb:=HI3.out.nb
  have hzz:=HI3.out.z
  obtain⟨x0,x1,x2,x3,x4,x5⟩:=kAx hnb
  obtain⟨u0,u1,u2,u3,u4,u5⟩:=kDk hnb
  obtain⟨z0,z1,z2,z3,z4,z5⟩:=kAx hzz
  obtain⟨y0,y1,y2,y3,y4,y5⟩:=kDk hzz
  clear hnb hzz
  go_wp2_with fail
  have hst:=kEz HI3.out.z (.int .i64 10) (.slice (some ⟨w.heap.size+1,0,none⟩) 1 1) (.int .i64 0) (.int .i64 0) (.int .i64 0) (.slice none 0 0)
  obtain⟨q0,q1,q2,q3,q4,q5⟩:=kAx hst
  exact bodyPost_ret (v:=.agg #[.int .i64 10,.slice (some ⟨w.heap.size+1,0,none⟩) 1 1,.int .i64 0,.int .i64 0,.int .i64 0,.slice none 0 0]) (by simp [results,Tryz.results183,go_sem,q0,q1,q2,q3,q4,q5]) rfl (kEx (P:=fun b=>New w b∧b≠w.heap.size) (Nat.le_refl _) HI3.out.ne.1 HI3.out.up HI3.out.rd HI3.out.z HI3.out.adv
   (NdV.atom (names:=[f]) (SlP.of_row HI3.out.row (fun g hg=>⟨by have:=HI3.out.own g hg;unfold New;omega,by have:=HI3.out.own g hg;omega⟩))) (fun b hb _=>hb))
 | false =>
  have HC:=Lib.hid (kEj _ p l (kBx s) [41] HI.out.rd hlen)
  rw [hq] at HC
  have HT:Hid ((kDz l [41] (kBx s)).2=kBx s):=Lib.hid (by unfold kDz;rw [hq];rfl)
  have HV:Hid (∃ys,kJk l (l.length+1) [f] (kBx s)=some (ys,s')∧n=Nd.mk 10 ys 0 0 0 []):=Lib.hid (by
   unfold callP at he
   simp only [hq,Bool.false_eq_true,if_false] at he
   cases hz:kJk l (l.length+1) [f] (kBx s) with
   | none=>rw [hz] at he;cases he
   | some r=>obtain⟨ys,t⟩:=r;rw [hz] at he;simp at he;exact⟨ys,by rw [he.2],he.1.symm⟩)
  clear he hk0 hq
  go_enter Tryz.func183,Tryz.ntmps183
  go_wp2_with fail
  refine HC.out.mono ?_
  clear b1 f1
  rintro e w3 ⟨rfl,hR3,hu3⟩
  rw [HT.out] at hR3
  have HI3:=Lib.hid (HI.out.go hu3 hR3 (Adv.refl HI.out.rd.inb))
  clear hR3 hu3 HC HI HT
  go_wp2_with fail
  generalize w.heap.size+1+1=Bn at *
  obtain⟨ys,hv0,hn⟩:=HV.out
  subst hn
  have HL0:Hid (∃k xs t v,kJk l k xs t=some (ys,s')∧CallI w p Bn l s t xs v w3∧xs.length≤17):=Lib.hid ⟨_,_,_,_,hv0,HI3.out,by simp⟩
  clear hv0 HV HI3
  go_loopw [] (fun wr=>Hid (∃k xs t v,kJk l k xs t=some (ys,s')∧CallI w p Bn l s t xs v wr∧xs.length≤17)) (fun wr=>l.length-nxOf wr p)
  case atStart=>exact HL0
  case round =>
   obtain⟨k,xs,t,v,hl,hI,h17⟩:=hrel.out
   obtain⟨va,vc,rfl,-⟩:=kJj hI.row
   clear hrel HL0
   cases k with
   | zero=>unfold kJk at hl;cases hl
   | succ k =>
   unfold kJk at hl
   have HI:=Lib.hid hI
   have HNX:=Lib.hid hI.rd.nx
   obtain⟨⟨vr,hb,-,-⟩,-,-⟩:=id hI.rd
   have b2:=kAz hb 2
   unfold rdC at b2
   simp only [List.getElem?_toArray,List.getElem?_cons_zero,List.getElem?_cons_succ] at b2
   clear hb
   by_cases h0:t.er=0
   ·have k0:((t.er:Int)==0)=true:=by simp [h0]
    rw [if_pos h0] at hl
    have HN:=Lib.hid (kHw wr p l t hI.rd)
    have hx17:(0:Int)≤xs.length:=by omega
    have hnb:=hI.nb
    generalize htk:tkAt l t=tt at HN hl
    obtain⟨tk,tx,tv,tl,tc⟩:=tt
    simp only at hl
    have hfd:∀u,(Instr.field 83 (.agg #[.int .i64 tk,.string ⟨tx.toArray⟩,.int .i64 tv,.int .i64 tl,.int .i64 tc]) 0).run Tryz.prog u=.ok (.int .i64 tk) u:=fun _=>by kernel_rfl
    clear hI
    by_cases h1:tk=1
    ·have k1:((tk:Int)==1)=true:=by simp [h1]
     by_cases h2:xs.length=17
     ·have k2:((xs.length:Int)==17)=true:=by simp [h2]
      rw [if_pos ⟨h1,h2⟩] at hl
      simp only [Option.some.injEq,Prod.mk.injEq] at hl
      obtain⟨rfl,rfl⟩:=hl
      clear hnb h0 h1 h2 htk
      go_wp2_with fail
      refine HN.out.mono ?_
      rintro e w4 ⟨rfl,hu4⟩
      unfold tkA
      have hI4:=HI.out.go (hu4.mono (by simp)) (HI.out.rd.ext hu4) (Adv.refl HI.out.rd.inb)
      have hnb4:=hI4.nb
      have x1:=kAz hnb4 1
      simp only [List.getElem?_toArray,List.getElem?_cons_zero,List.getElem?_cons_succ] at x1
      have HI4:=Lib.hid hI4
      clear hI4 hnb4 hu4 HI HN b2
      go_wp2_with fail
      refine (kLj w4 p 8 l t HI4.out.rd).mono ?_
      clear x1
      rintro e w5 ⟨rfl,hR5,hu5⟩
      have HI5:=Lib.hid (HI4.out.go hu5 hR5 (Adv.wrong HI4.out.rd.inb 8))
      clear hR5 hu5 HI4
      have hnb:=HI5.out.nb
      have hzz:=HI5.out.z
      obtain⟨x0,x1,x2,x3,x4,x5⟩:=kAx hnb
      obtain⟨u0,u1,u2,u3,u4,u5⟩:=kDk hnb
      obtain⟨z0,z1,z2,z3,z4,z5⟩:=kAx hzz
      obtain⟨y0,y1,y2,y3,y4,y5⟩:=kDk hzz
      clear hnb hzz
      go_wp2_with fail
      have hst:=kEz HI5.out.z (.int .i64 10) (.slice va xs.length vc) (.int .i64 0) (.int .i64 0) (.int .i64 0) (.slice none 0 0)
      obtain⟨q0,q1,q2,q3,q4,q5⟩:=kAx hst
      exact bodyPost_ret (v:=.agg #[.int .i64 10,.slice va xs.length vc,.int .i64 0,.int .i64 0,.int .i64 0,.slice none 0 0]) (by simp [results,Tryz.results183,go_sem,q0,q1,q2,q3,q4,q5]) rfl (kEx (P:=fun b=>New w b∧b≠w.heap.size) (Nat.le_refl _) HI5.out.ne.1 HI5.out.up HI5.out.rd HI5.out.z HI5.out.adv
       (NdV.atom (names:=xs) (SlP.of_row HI5.out.row (fun g hg=>⟨by have:=HI5.out.own g hg;unfold New;omega,by have:=HI5.out.own g hg;omega⟩))) (fun b hb _=>hb))
     ·have k2:((xs.length:Int)==17)=false:=by rw [beq_eq_false_iff_ne];omega
      rw [if_neg (by simp [h2])] at hl
      have hgo:xs.length≤16:=by omega
      clear hnb h0 h1 h2
      go_wp2_with fail
      refine HN.out.mono ?_
      rintro e w4 ⟨rfl,hu4⟩
      unfold tkA
      have hI4:=HI.out.go (hu4.mono (by simp)) (HI.out.rd.ext hu4) (Adv.refl HI.out.rd.inb)
      have hnb4:=hI4.nb
      have x1:=kAz hnb4 1
      simp only [List.getElem?_toArray,List.getElem?_cons_zero,List.getElem?_cons_succ] at x1
      have hd4:Upto [] w4 w4.drew:=(Upto.refl [] w4).drew
      have hI4d:=hI4.go (hd4.mono (by simp)) (hI4.rd.ext hd4) (Adv.refl hI4.rd.inb)
      have hnb4d:=hI4d.nb
      have v1:=kAz hnb4d 1
      simp only [List.getElem?_toArray,List.getElem?_cons_zero,List.getElem?_cons_succ] at v1
      have HI4:=Lib.hid hI4d
      have HS4:Hid (w4.heap.size=w4.drew.heap.size):=Lib.hid rfl
      clear hI4 hnb4 hnb4d hI4d hd4 hu4 HI HN b2
      obtain⟨i0,hi0,hz0,hz1,hz2⟩:=info9'
      go_wp2_with fail
      go_region_law (first
       | (go_simp
          refine (kMx w4.drew p l t HI4.out.rd hlen).mono ?_
          rintro e w5 ⟨rfl,hR5,hu5⟩
          have hI5:=HI4.out.go hu5 hR5 (kEq HF.out HI4.out.rd.inb).1
          have hnb5:=hI5.nb
          have g1:=kAz hnb5 1
          have g2:=kAz (((Upto.refl [] w5).alloc (.cells #[.string ⟨(kAj l t).1.toArray⟩] 9)).at hnb5 (by simp)) 1
          simp only [List.getElem?_toArray,List.getElem?_cons_zero,List.getElem?_cons_succ] at g1 g2
          have HI5:=Lib.hid hI5
          clear hI5 hnb5 hR5 hu5)
       | (refine step_app _ (by rfl) (.tmp 37) (.tmp 40) 22 (by rfl) 9 i0 (.string ⟨#[]⟩) 1 16 Tryz.underlying22 hi0 hz0 hz1 hz2 rfl (by decide) _ _ _ (by rfl) (HI5.out.row.alloc _) ⟨w5.heap.size,0,none⟩ 1 1 [.string ⟨(kAj l t).1.toArray⟩] (by rfl) (by rfl) (one_at (kAq _ _)) (by simp [Value.oneCell']) (by unfold maxLen;omega) (by omega) ?_
          intro qa qc w6 hg6
          have hap:=HI5.out.app rfl hg6
          have e1:=kAz hap.2 1
          have e2:=kDx hap.2 1
          simp only [List.getElem?_toArray,List.getElem?_cons_zero,List.getElem?_cons_succ] at e1
          have HAP:=Lib.hid hap.1
          clear hap hg6))
      all_goals (
       have HNF:Hid (tkAt l t=⟨tk,tx,tv,tl,tc⟩):=Lib.hid htk
       cases hc:isF l [44] (kAj l t).2 with
       | true =>
        have HC:=Lib.hid (kEj _ p l (kAj l t).2 [44] HAP.out.rd hlen)
        rw [hc] at HC hl
        simp only [if_true] at hl
        have HT:Hid ((kDz l [44] (kAj l t).2).2=kBx (kAj l t).2):=Lib.hid (by unfold kDz;rw [if_pos hc])
        have HA:=Lib.hid (Adv.step HF.out HAP.out.rd.inb (kRx hc))
        have HID:=Lib.hid ((kEq HF.out HI4.out.rd.inb).2 (isF_er hc))
        have HLL:=Lib.hid hl
        have H16:Hid (xs.length≤16):=Lib.hid (hgo)
        clear hl hc htk
        go_wp2_with fail
        refine HC.out.mono ?_
        rintro e w7 ⟨rfl,hR7,hu7⟩
        rw [HT.out] at hR7
        have HI7:=Lib.hid (HAP.out.go hu7 hR7 HA.out)
        clear hR7 hu7
        go_wp2_with fail
        refine⟨Lib.hid ⟨k,xs++[(kAj l t).1],kBx (kAj l t).2,_,HLL.out,HI7.out,by have:=H16.out;simp;omega⟩,?_⟩
        have q1:=HI7.out.rd.nx
        have q2:=HNX.out
        have q3:=HID.out
        have q4:=HI7.out.rd.inb
        have q5:(kBx (kAj l t).2).nx=(kAj l t).2.nx+1:=rfl
        rw [q1,q2]
        omega
       | false =>
        have HC:=Lib.hid (kEj _ p l (kAj l t).2 [44] HAP.out.rd hlen)
        rw [hc] at HC hl
        simp only [Bool.false_eq_true,if_false,Option.some.injEq,Prod.mk.injEq] at hl
        have HT:Hid ((kDz l [44] (kAj l t).2).2=(kAj l t).2):=Lib.hid (by unfold kDz;rw [hc];rfl)
        obtain⟨rfl,rfl⟩:=hl
        clear hc htk
        go_wp2_with fail
        refine HC.out.mono ?_
        rintro e w7 ⟨rfl,hR7,hu7⟩
        rw [HT.out] at hR7
        have HI7:=Lib.hid (HAP.out.go hu7 hR7 (Adv.refl HAP.out.rd.inb))
        clear hR7 hu7
        go_wp2_with fail
        refine (kSk w7 p l _ [41] HI7.out.rd hlen).mono ?_
        rintro e w8 ⟨rfl,hR8,hu8⟩
        have HI8:=Lib.hid (HI7.out.go hu8 hR8 (kNq HF.out HI7.out.rd.inb))
        clear hR8 hu8
        have hnb:=HI8.out.nb
        have hzz:=HI8.out.z
        obtain⟨x0,x1,x2,x3,x4,x5⟩:=kAx hnb
        obtain⟨u0,u1,u2,u3,u4,u5⟩:=kDk hnb
        obtain⟨z0,z1,z2,z3,z4,z5⟩:=kAx hzz
        obtain⟨y0,y1,y2,y3,y4,y5⟩:=kDk hzz
        clear hnb hzz
        go_wp2_with fail
        have hst:=kEz HI8.out.z (.int .i64 10) (.slice qa (xs.length+1) qc) (.int .i64 0) (.int .i64 0) (.int .i64 0) (.slice none 0 0)
        obtain⟨q0,q1,q2,q3,q4,q5⟩:=kAx hst
        exact bodyPost_ret (v:=.agg #[.int .i64 10,.slice qa (xs.length+1) qc,.int .i64 0,.int .i64 0,.int .i64 0,.slice none 0 0]) (by simp [results,Tryz.results183,go_sem,q0,q1,q2,q3,q4,q5]) rfl (kEx (P:=fun b=>New w b∧b≠w.heap.size) (Nat.le_refl _) HI8.out.ne.1 HI8.out.up HI8.out.rd HI8.out.z HI8.out.adv
         (NdV.atom (names:=xs++[(kAj l t).1]) (SlP.of_row HI8.out.row (fun g hg=>⟨by have:=HI8.out.own g hg;unfold New;omega,by have:=HI8.out.own g hg;omega⟩))) (fun b hb _=>hb)))
    ·have k1:((tk:Int)==1)=false:=by rw [beq_eq_false_iff_ne];omega
     rw [if_neg (by simp [h1])] at hl
     clear hnb h0
     go_wp2_with fail
     refine HN.out.mono ?_
     rintro e w4 ⟨rfl,hu4⟩
     unfold tkA
     have hI4:=HI.out.go (hu4.mono (by simp)) (HI.out.rd.ext hu4) (Adv.refl HI.out.rd.inb)
     have hnb4:=hI4.nb
     have x1:=kAz hnb4 1
     simp only [List.getElem?_toArray,List.getElem?_cons_zero,List.getElem?_cons_succ] at x1
     have hd4:Upto [] w4 w4.drew:=(Upto.refl [] w4).drew
     have hI4d:=hI4.go (hd4.mono (by simp)) (hI4.rd.ext hd4) (Adv.refl hI4.rd.inb)
     have hnb4d:=hI4d.nb
     have v1:=kAz hnb4d 1
     simp only [List.getElem?_toArray,List.getElem?_cons_zero,List.getElem?_cons_succ] at v1
     have HI4:=Lib.hid hI4d
     have HS4:Hid (w4.heap.size=w4.drew.heap.size):=Lib.hid rfl
     clear hI4 hnb4 hnb4d hI4d hd4 hu4 HI HN b2
     obtain⟨i0,hi0,hz0,hz1,hz2⟩:=info9'
     go_wp2_with fail
     go_region_law (first
      | (go_simp
         refine (kMx w4.drew p l t HI4.out.rd hlen).mono ?_
         rintro e w5 ⟨rfl,hR5,hu5⟩
         have hI5:=HI4.out.go hu5 hR5 (kEq HF.out HI4.out.rd.inb).1
         have hnb5:=hI5.nb
         have g1:=kAz hnb5 1
         have g2:=kAz (((Upto.refl [] w5).alloc (.cells #[.string ⟨(kAj l t).1.toArray⟩] 9)).at hnb5 (by simp)) 1
         simp only [List.getElem?_toArray,List.getElem?_cons_zero,List.getElem?_cons_succ] at g1 g2
         have HI5:=Lib.hid hI5
         clear hI5 hnb5 hR5 hu5)
      | (refine step_app _ (by rfl) (.tmp 37) (.tmp 40) 22 (by rfl) 9 i0 (.string ⟨#[]⟩) 1 16 Tryz.underlying22 hi0 hz0 hz1 hz2 rfl (by decide) _ _ _ (by rfl) (HI5.out.row.alloc _) ⟨w5.heap.size,0,none⟩ 1 1 [.string ⟨(kAj l t).1.toArray⟩] (by rfl) (by rfl) (one_at (kAq _ _)) (by simp [Value.oneCell']) (by unfold maxLen;omega) (by omega) ?_
         intro qa qc w6 hg6
         have hap:=HI5.out.app rfl hg6
         have e1:=kAz hap.2 1
         have e2:=kDx hap.2 1
         simp only [List.getElem?_toArray,List.getElem?_cons_zero,List.getElem?_cons_succ] at e1
         have HAP:=Lib.hid hap.1
         clear hap hg6))
     all_goals (
      have HNF:Hid (tkAt l t=⟨tk,tx,tv,tl,tc⟩):=Lib.hid htk
      cases hc:isF l [44] (kAj l t).2 with
      | true =>
       have HC:=Lib.hid (kEj _ p l (kAj l t).2 [44] HAP.out.rd hlen)
       rw [hc] at HC hl
       simp only [if_true] at hl
       have HT:Hid ((kDz l [44] (kAj l t).2).2=kBx (kAj l t).2):=Lib.hid (by unfold kDz;rw [if_pos hc])
       have HA:=Lib.hid (Adv.step HF.out HAP.out.rd.inb (kRx hc))
       have HID:=Lib.hid ((kEq HF.out HI4.out.rd.inb).2 (isF_er hc))
       have HLL:=Lib.hid hl
       have H16:Hid (xs.length≤16):=Lib.hid (by
        exfalso
        have hh:=identR_kind (l:=l) (s:=t) (isF_er hc)
        rw [htk] at hh
        exact h1 hh)
       clear hl hc htk
       go_wp2_with fail
       refine HC.out.mono ?_
       rintro e w7 ⟨rfl,hR7,hu7⟩
       rw [HT.out] at hR7
       have HI7:=Lib.hid (HAP.out.go hu7 hR7 HA.out)
       clear hR7 hu7
       go_wp2_with fail
       refine⟨Lib.hid ⟨k,xs++[(kAj l t).1],kBx (kAj l t).2,_,HLL.out,HI7.out,by have:=H16.out;simp;omega⟩,?_⟩
       have q1:=HI7.out.rd.nx
       have q2:=HNX.out
       have q3:=HID.out
       have q4:=HI7.out.rd.inb
       have q5:(kBx (kAj l t).2).nx=(kAj l t).2.nx+1:=rfl
       rw [q1,q2]
       omega
      | false =>
       have HC:=Lib.hid (kEj _ p l (kAj l t).2 [44] HAP.out.rd hlen)
       rw [hc] at HC hl
       simp only [Bool.false_eq_true,if_false,Option.some.injEq,Prod.mk.injEq] at hl
       have HT:Hid ((kDz l [44] (kAj l t).2).2=(kAj l t).2):=Lib.hid (by unfold kDz;rw [hc];rfl)
       obtain⟨rfl,rfl⟩:=hl
       clear hc htk
       go_wp2_with fail
       refine HC.out.mono ?_
       rintro e w7 ⟨rfl,hR7,hu7⟩
       rw [HT.out] at hR7
       have HI7:=Lib.hid (HAP.out.go hu7 hR7 (Adv.refl HAP.out.rd.inb))
       clear hR7 hu7
       go_wp2_with fail
       refine (kSk w7 p l _ [41] HI7.out.rd hlen).mono ?_
       rintro e w8 ⟨rfl,hR8,hu8⟩
       have HI8:=Lib.hid (HI7.out.go hu8 hR8 (kNq HF.out HI7.out.rd.inb))
       clear hR8 hu8
       have hnb:=HI8.out.nb
       have hzz:=HI8.out.z
       obtain⟨x0,x1,x2,x3,x4,x5⟩:=kAx hnb
       obtain⟨u0,u1,u2,u3,u4,u5⟩:=kDk hnb
       obtain⟨z0,z1,z2,z3,z4,z5⟩:=kAx hzz
       obtain⟨y0,y1,y2,y3,y4,y5⟩:=kDk hzz
       clear hnb hzz
       go_wp2_with fail
       have hst:=kEz HI8.out.z (.int .i64 10) (.slice qa (xs.length+1) qc) (.int .i64 0) (.int .i64 0) (.int .i64 0) (.slice none 0 0)
       obtain⟨q0,q1,q2,q3,q4,q5⟩:=kAx hst
       exact bodyPost_ret (v:=.agg #[.int .i64 10,.slice qa (xs.length+1) qc,.int .i64 0,.int .i64 0,.int .i64 0,.slice none 0 0]) (by simp [results,Tryz.results183,go_sem,q0,q1,q2,q3,q4,q5]) rfl (kEx (P:=fun b=>New w b∧b≠w.heap.size) (Nat.le_refl _) HI8.out.ne.1 HI8.out.up HI8.out.rd HI8.out.z HI8.out.adv
        (NdV.atom (names:=xs++[(kAj l t).1]) (SlP.of_row HI8.out.row (fun g hg=>⟨by have:=HI8.out.own g hg;unfold New;omega,by have:=HI8.out.own g hg;omega⟩))) (fun b hb _=>hb)))
   ·have k0:((t.er:Int)==0)=false:=by rw [beq_eq_false_iff_ne];omega
    rw [if_neg h0] at hl
    simp only [Option.some.injEq,Prod.mk.injEq] at hl
    obtain⟨rfl,rfl⟩:=hl
    clear hI h0
    have hnb:=HI.out.nb
    have hzz:=HI.out.z
    obtain⟨x0,x1,x2,x3,x4,x5⟩:=kAx hnb
    obtain⟨u0,u1,u2,u3,u4,u5⟩:=kDk hnb
    obtain⟨z0,z1,z2,z3,z4,z5⟩:=kAx hzz
    obtain⟨y0,y1,y2,y3,y4,y5⟩:=kDk hzz
    clear hnb hzz
    go_wp2_with fail
    have hst:=kEz HI.out.z (.int .i64 10) (.slice va xs.length vc) (.int .i64 0) (.int .i64 0) (.int .i64 0) (.slice none 0 0)
    obtain⟨q0,q1,q2,q3,q4,q5⟩:=kAx hst
    exact bodyPost_ret (v:=.agg #[.int .i64 10,.slice va xs.length vc,.int .i64 0,.int .i64 0,.int .i64 0,.slice none 0 0]) (by simp [results,Tryz.results183,go_sem,q0,q1,q2,q3,q4,q5]) rfl (kEx (P:=fun b=>New w b∧b≠w.heap.size) (Nat.le_refl _) HI.out.ne.1 HI.out.up HI.out.rd HI.out.z HI.out.adv
     (NdV.atom (names:=xs) (SlP.of_row HI.out.row (fun g hg=>⟨by have:=HI.out.own g hg;unfold New;omega,by have:=HI.out.own g hg;omega⟩))) (fun b hb _=>hb))
end Go.Proofs.YtkhbpebpljdifaaGreatDoor
