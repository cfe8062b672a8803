/- Merged texts. -/
import Derived.Test.YtkhbpebpljdifaaGreatDoorMPrnG
set_option maxRecDepth 100000
set_option maxHeartbeats 25600000
namespace Go.Proofs.YtkhbpebpljdifaaGreatDoor
open Go.RowKit Go.PL Go.Maps
theorem con_word:∀k:_root_.Fin 4,pwordL[12+k.val]?=some (conW (12+(k.val:Int))):=by decide +kernel
def headT (op:Int) (names:List (List UInt8)) (so n m:Int):List PL.Tok:=if op<11 then kIk op names n m else if 15<op then [kyT (quW op),kyT (kDj.getD so.toNat []),idT (names.getD 0 []),puT 58] else [kyT (if op=11 then [110,111,116] else conW op)]
mutual
def kRj:Nat→Nd→List UInt8
 | d,.mk op names so n m l=>List.replicate (2*d) 32++(jn (headT op names so n m)++10::kHj (d+1) l)
def kHj:Nat→List Nd→List UInt8
 | _,[]=>[]
 | d,x::r=>kRj d x++kHj d r
end
theorem kQq (d:Nat) (x:Nd):∀(l:List Nd),kHj d (l++[x])=kHj d l++kRj d x
 | []=>by simp [kHj]
 | y::l=>by simp only [List.cons_append,kHj,kQq d x l,List.append_assoc]
theorem kTz (d:Nat) (l:List Nd) (i:Nat):(kHj d (l.take i)).length≤(kHj d l).length:=by
 have h:∀(a b:List Nd),kHj d (a++b)=kHj d a++kHj d b:=by
  intro a b
  induction a with
  | nil=>simp [kHj]
  | cons x a ih=>simp only [List.cons_append,kHj,ih,List.append_assoc]
 have h2:=congrArg List.length (h (l.take i) (l.drop i))
 rw [List.take_append_drop,List.length_append] at h2
 omega
theorem rep_eq:∀d:Nat,Lib.repeatL [32,32] d=List.replicate (2*d) 32
 | 0=>rfl
 | d+1=>by rw [Lib.repeatL,rep_eq d,show 2*(d+1)=2*d+1+1 by omega,List.replicate_succ,List.replicate_succ];rfl
theorem join_slc {w:World} {xs:List (List UInt8)} {y:Value} (h:SlC w y (xs.map sV)) (hc:CapOk y xs.length) (hj:(Lib.join xs [32]).length≤140737488355328) (hn:xs.length≤140737488355328):Calls Tryz.prog 82 #[y,.string ⟨#[32]⟩] w fun e w'=>e=.returned (.string ⟨(Lib.join xs [32]).toArray⟩)∧Upto [] w w':=by
 obtain⟨bs,hbs⟩:∃bs:List ByteArray,bs=xs.map fun l=>(⟨l.toArray⟩:ByteArray):=⟨_,rfl⟩
 have hbl:bs.length=xs.length:=by rw [hbs,List.length_map]
 have hbj:bs.map (fun x=>x.data.toList)=xs:=by rw [hbs,List.map_map];simp [Function.comp_def]
 have hbc:∀(j:Nat) x,bs[j]?=some x→(xs.map sV)[j]?=some (.string x):=by
  intro j x hj
  rw [hbs,List.getElem?_map] at hj
  obtain⟨y,hy,rfl⟩:=Option.map_eq_some_iff.1 hj
  rw [List.getElem?_map,hy]
  rfl
 by_cases h0:xs=[]
 ·subst h0
  obtain⟨a,c,rfl,-⟩:=hc
  exact (Tryz.strings_Join_none _ _ ⟨#[32]⟩ w).mono fun e w' ⟨h3,h4⟩=>⟨h3,by rw [h4];exact Upto.refl _ _⟩
 ·rcases h with⟨h1,-⟩ | ⟨g,o,c,rfl,hcell⟩
  ·exact absurd (List.map_eq_nil_iff.1 h1) h0
  ·obtain⟨a,c',he,hcc⟩:=hc
   simp only [Value.slice.injEq] at he
   obtain⟨-,-,rfl⟩:=he
   rw [List.length_map,←hbl]
   have hlt:g<w.heap.size:=by
    cases xs with
    | nil=>exact absurd rfl h0
    | cons x r=>exact World.block_lt_of_cell? w _ (hcell 0 (sV x) rfl)
   have key:=Tryz.strings_Join g o c bs ⟨#[32]⟩ w (fun j x hj=>hcell j _ (hbc j x hj)) hlt (by omega) (by omega) (by rw [hbj];exact hj)
   rw [hbj] at key
   exact key.mono fun e w' ⟨h3,h4⟩=>⟨h3,ext_of h4⟩
theorem head_atom (op so nn mm:Int) (b1:Option Addr) (b2 b3:Nat) (d1:Option Addr) (d2 d3:Nat) (T:List (List UInt8)) (w:World) (h0:0≤op) (h1:op<11) (hp:∀u,Upto [] w u→PEnv u) (hat:∀u,Upto [] w u→Calls Tryz.prog 108 #[.agg #[.int .i64 op,.slice b1 b2 b3,.int .i64 so,.int .i64 nn,.int .i64 mm,.slice d1 d2 d3]] u (kXw u T)):Calls Tryz.prog 123 #[.agg #[.int .i64 op,.slice b1 b2 b3,.int .i64 so,.int .i64 nn,.int .i64 mm,.slice d1 d2 d3]] w (kXw w T):=by
 have hu1:Upto [] w (w.alloc (.cells #[.int .i64 op,.slice b1 b2 b3,.int .i64 so,.int .i64 nn,.int .i64 mm,.slice d1 d2 d3] 34)):=(Upto.refl [] w).alloc _
 have HU1:=Lib.hid hu1
 have hb:=kAq w (.cells #[.int .i64 op,.slice b1 b2 b3,.int .i64 so,.int .i64 nn,.int .i64 mm,.slice d1 d2 d3] 34)
 have HB1:=Lib.hid hb
 obtain⟨y0,y1,y2,y3,y4,y5⟩:=kAx hb
 have HST:=Lib.hid (fun u (hu:Upto [] w u)=>by
  have h:=kTq op so nn mm b1 b2 b3 d1 d2 d3 u (hp u hu) (by omega) (by omega)
  rwa [show strI op=6 by unfold strI;rw [if_neg (by omega),if_neg (by omega),if_neg (by omega),if_neg (by omega),if_neg (by omega)]] at h)
 have HAT:=Lib.hid hat
 clear hp hat hu1 hb h0 h1
 go_enter Tryz.func123,Tryz.ntmps123
 go_wp2_with fail
 refine (HST.out _ HU1.out).mono ?_
 rintro e w5 ⟨rfl,hu5⟩
 have HU5:=Lib.hid (HU1.out.trans_ext hu5)
 have HB5:=Lib.hid (hu5.at HB1.out (by simp))
 have hb5:=HB5.out
 clear y0 y1 y2 y3 y4 y5
 obtain⟨z0,z1,z2,z3,z4,z5⟩:=kAx hb5
 clear hu5 hb5
 go_wp2_with fail
 refine (HAT.out _ HU5.out).mono ?_
 rintro e w6 ⟨v,rfl,h2,h3,a,c,rfl,hc⟩
 have HF:=Lib.hid (And.intro h2 (And.intro (HU5.out.trans_ext h3) hc))
 clear h2 h3 hc
 go_wp2_with fail
 go_ret
 exact⟨_,rfl,HF.out.1,HF.out.2.1,_,_,rfl,HF.out.2.2⟩
theorem head_qu (op so nn mm:Int) (b1:Option Addr) (b2 b3:Nat) (d1:Option Addr) (d2 d3:Nat) (T:List (List UInt8)) (w:World) (h0:16≤op) (h1:op≤17) (hp:∀u,Upto [] w u→PEnv u) (hat:∀u,Upto [] w u→Calls Tryz.prog 110 #[.agg #[.int .i64 op,.slice b1 b2 b3,.int .i64 so,.int .i64 nn,.int .i64 mm,.slice d1 d2 d3]] u (kXw u T)):Calls Tryz.prog 123 #[.agg #[.int .i64 op,.slice b1 b2 b3,.int .i64 so,.int .i64 nn,.int .i64 mm,.slice d1 d2 d3]] w (kXw w T):=by
 have hu1:Upto [] w (w.alloc (.cells #[.int .i64 op,.slice b1 b2 b3,.int .i64 so,.int .i64 nn,.int .i64 mm,.slice d1 d2 d3] 34)):=(Upto.refl [] w).alloc _
 have HU1:=Lib.hid hu1
 have hb:=kAq w (.cells #[.int .i64 op,.slice b1 b2 b3,.int .i64 so,.int .i64 nn,.int .i64 mm,.slice d1 d2 d3] 34)
 have HB1:=Lib.hid hb
 obtain⟨y0,y1,y2,y3,y4,y5⟩:=kAx hb
 have HST:=Lib.hid (fun u (hu:Upto [] w u)=>by
  have h:=kTq op so nn mm b1 b2 b3 d1 d2 d3 u (hp u hu) (by omega) (by omega)
  rwa [show strI op=5 by unfold strI;rw [if_neg (by omega),if_neg (by omega),if_neg (by omega),if_neg (by omega),if_pos (by omega)]] at h)
 have HBD:=Lib.hid (fun u=>by
  have h:=kUq op so nn mm b1 b2 b3 d1 d2 d3 u h1
  rwa [decide_eq_true (by omega)] at h)
 have HAT:=Lib.hid hat
 clear hp hat hu1 hb h0 h1
 go_enter Tryz.func123,Tryz.ntmps123
 go_wp2_with fail
 refine (HST.out _ HU1.out).mono ?_
 rintro e w5 ⟨rfl,hu5⟩
 have HU5:=Lib.hid (HU1.out.trans_ext hu5)
 have HB5:=Lib.hid (hu5.at HB1.out (by simp))
 have hb5:=HB5.out
 clear y0 y1 y2 y3 y4 y5
 obtain⟨z0,z1,z2,z3,z4,z5⟩:=kAx hb5
 clear hu5 hb5
 go_wp2_with fail
 refine (HBD.out _).mono ?_
 rintro e w7 ⟨rfl,hu7⟩
 have HU7:=Lib.hid (HU5.out.trans_ext hu7)
 have hb7:=hu7.at HB5.out (by simp)
 clear z0 z1 z2 z3 z4 z5
 obtain⟨x0,x1,x2,x3,x4,x5⟩:=kAx hb7
 clear hu7 hb7
 go_wp2_with fail
 refine (HAT.out _ HU7.out).mono ?_
 rintro e w6 ⟨v,rfl,h2,h3,a,c,rfl,hc⟩
 have HF:=Lib.hid (And.intro h2 (And.intro (HU7.out.trans_ext h3) hc))
 clear h2 h3 hc
 go_wp2_with fail
 go_ret
 exact⟨_,rfl,HF.out.1,HF.out.2.1,_,_,rfl,HF.out.2.2⟩
theorem head_word (k:Nat) (so nn mm:Int) (b1:Option Addr) (b2 b3:Nat) (d1:Option Addr) (d2 d3:Nat) (W:List UInt8) (w:World) (h0:11≤k) (h1:k≤15) (hW:pwordL[k]?=some W) (hp:∀u,Upto [] w u→PEnv u):Calls Tryz.prog 123 #[.agg #[.int .i64 (k:Int),.slice b1 b2 b3,.int .i64 so,.int .i64 nn,.int .i64 mm,.slice d1 d2 d3]] w (kXw w [W]):=by
 have hu1:Upto [] w (w.alloc (.cells #[.int .i64 (k:Int),.slice b1 b2 b3,.int .i64 so,.int .i64 nn,.int .i64 mm,.slice d1 d2 d3] 34)):=(Upto.refl [] w).alloc _
 have HU1:=Lib.hid hu1
 have hb:=kAq w (.cells #[.int .i64 (k:Int),.slice b1 b2 b3,.int .i64 so,.int .i64 nn,.int .i64 mm,.slice d1 d2 d3] 34)
 have HB1:=Lib.hid hb
 obtain⟨y0,y1,y2,y3,y4,y5⟩:=kAx hb
 obtain⟨st,hst⟩:∃st,strI (k:Int)=st:=⟨_,rfl⟩
 have hs6:st≤5:=by
  rw [←hst]
  unfold strI
  repeat' split
  all_goals omega
 have HST:=Lib.hid (fun u (hu:Upto [] w u)=>by
  have h:=kTq (k:Int) so nn mm b1 b2 b3 d1 d2 d3 u (hp u hu) (by omega) (by omega)
  rwa [hst] at h)
 have HBD:=Lib.hid (fun u=>by
  have h:=kUq (k:Int) so nn mm b1 b2 b3 d1 d2 d3 u (by omega)
  rwa [decide_eq_false (by omega)] at h)
 have HPW:=Lib.hid (fun u (hu:Upto [] w u)=>(hp u hu).word k W hW)
 have e1:(st==6)=false:=by rw [beq_eq_false_iff_ne];omega
 have e2:(st != 6)=true:=by rw [bne,e1];rfl
 have hk0:(0:Int)≤k:=by omega
 have hk1:(k:Int)<18:=by omega
 clear hp hu1 hb h0 h1 hW hst hs6
 go_enter Tryz.func123,Tryz.ntmps123
 go_wp2_with fail
 refine (HST.out _ HU1.out).mono ?_
 rintro e w5 ⟨rfl,hu5⟩
 have HU5:=Lib.hid (HU1.out.trans_ext hu5)
 have HB5:=Lib.hid (hu5.at HB1.out (by simp))
 have hb5:=HB5.out
 clear y0 y1 y2 y3 y4 y5
 obtain⟨z0,z1,z2,z3,z4,z5⟩:=kAx hb5
 clear hu5 hb5
 go_wp2_with fail
 refine (HBD.out _).mono ?_
 rintro e w7 ⟨rfl,hu7⟩
 have HU7:=Lib.hid (HU5.out.trans_ext hu7)
 have hb7:=hu7.at HB5.out (by simp)
 have cw:=HPW.out _ HU7.out
 clear z0 z1 z2 z3 z4 z5
 obtain⟨x0,x1,x2,x3,x4,x5⟩:=kAx hb7
 clear hu7 hb7
 go_wp2_with fail
 go_ret
 exact⟨_,rfl,kLq (kAq _ _) 1 [sV W] (fun j u hj=>by simpa [sV] using hj),HU7.out.alloc _,_,_,rfl,Nat.le_refl _⟩
theorem BdI.lt {w0 w:World} {b:Nat} {bs:List UInt8} (h:BdI w0 w b bs):b<w.heap.size:=by
 rcases h.1 with⟨-,v,hb,-⟩ | ⟨-,v,hb,-⟩<;>exact kAk hb
theorem lines_walk (op so nn mm:Int) (b1:Option Addr) (b2 b3:Nat) (a2:Option Addr) (c2:Nat) (l:List Nd) (L:Nat) (hL:l.length=L) (w0:World) (P:Nat→Prop) (b d:Nat) (hd:d≤1000000000) (Hd:List (List UInt8)) (hls:LsAt w0 P a2 l) (hll:L≤1000000000)
  (hhd:∀u,Upto [] w0 u→Calls Tryz.prog 123 #[.agg #[.int .i64 op,.slice b1 b2 b3,.int .i64 so,.int .i64 nn,.int .i64 mm,.slice a2 L c2]] u (kXw u Hd)) (hhn:Hd.length≤1000000)
  (hch:∀x∈l,∀v,NdV w0 P x v→∀u bs,BdI w0 u b bs→bs.length+(kRj (d+1) x).length≤100000000000000→Calls Tryz.prog 85 #[.pointer (some ⟨b,0,none⟩),v,.int .i64 ((d:Int)+1)] u fun e w'=>e=.returned (.tuple #[])∧BdI w0 w' b (bs++kRj (d+1) x)∧BdK u w' b)
  (w:World) (bs:List UInt8) (h:BdI w0 w b bs) (hlen:bs.length+(List.replicate (2*d) (32:UInt8)++(Lib.join Hd [32]++10::kHj (d+1) l)).length≤100000000000000) :
  Calls Tryz.prog 85 #[.pointer (some ⟨b,0,none⟩),.agg #[.int .i64 op,.slice b1 b2 b3,.int .i64 so,.int .i64 nn,.int .i64 mm,.slice a2 L c2],.int .i64 (d:Int)] w fun e w'=>e=.returned (.tuple #[])∧BdI w0 w' b (bs++(List.replicate (2*d) (32:UInt8)++(Lib.join Hd [32]++10::kHj (d+1) l)))∧BdK w w' b:=by
 have hu1:Upto [] w (w.alloc (.cells #[.int .i64 op,.slice b1 b2 b3,.int .i64 so,.int .i64 nn,.int .i64 mm,.slice a2 L c2] 34)):=(Upto.refl [] w).alloc _
 have HB1:=Lib.hid (h.ext hu1)
 have HK1:=Lib.hid (BdK.ext b hu1)
 have HN1:=Lib.hid (kAq w (.cells #[.int .i64 op,.slice b1 b2 b3,.int .i64 so,.int .i64 nn,.int .i64 mm,.slice a2 L c2] 34))
 have hbn:=h.lt
 have HBN:Hid (w.heap.size≠b):=Lib.hid (by omega)
 have HR:Hid (∀u,Calls Tryz.prog 122 #[.string ⟨#[32,32]⟩,.int .i64 (d:Int)] u fun e w'=>e=.returned (.string ⟨(List.replicate (2*d) (32:UInt8)).toArray⟩)∧Upto [] u w'):=Lib.hid (fun u=>by
  have h1:=Tryz.strings_Repeat ⟨#[32,32]⟩ d u (by omega) (by show 2*d≤140737488355328;omega)
  have h2:Lib.repeatL ((⟨#[32,32]⟩:ByteArray).data.toList) d=List.replicate (2*d) 32:=rep_eq d
  rw [h2] at h1
  exact h1.mono fun e w' ⟨h3,h4⟩=>⟨h3,ext_of h4⟩)
 have HH:=Lib.hid hhd
 have HC:=Lib.hid hch
 have HLS:=Lib.hid hls
 have HL:=Lib.hid hL
 obtain⟨R,hR⟩:∃R,List.replicate (2*d) (32:UInt8)=R:=⟨_,rfl⟩
 obtain⟨J,hJ⟩:∃J,Lib.join Hd [32]=J:=⟨_,rfl⟩
 have HJ:=Lib.hid hJ
 rw [hR,hJ] at hlen ⊢
 rw [hR] at HR
 simp only [List.length_append,List.length_cons] at hlen
 have HLEN:=Lib.hid hlen
 have HHN:=Lib.hid hhn
 obtain⟨FIN,hF⟩:∃F,bs++(R++(J++10::kHj (d+1) l))=F:=⟨_,rfl⟩
 rw [hF]
 have HFN:=Lib.hid hF
 have hd0:(0:Int)≤d:=by omega
 have hd1:(d:Int)≤1000000000:=by omega
 have hl0:(0:Int)≤L:=by omega
 have hl1:(L:Int)≤1000000000:=by omega
 clear h hu1 hhd hch hls hL hR hJ hlen hhn hF hbn hd hll
 go_enter Tryz.func85,Tryz.ntmps85
 go_wp2_with fail
 refine (HR.out _).mono ?_
 rintro e w2 ⟨rfl,hu2⟩
 have HB2:=Lib.hid (HB1.out.ext hu2)
 have HK2:=Lib.hid (HK1.out.trans (BdK.ext b hu2))
 have HN2:=Lib.hid (hu2.at HN1.out (by simp))
 clear hu2
 go_wp2_with fail
 refine (wstr_calls w0 w2 b bs R HB2.out (by have:=HLEN.out;omega)).mono ?_
 rintro e w3 ⟨rfl,hb3,hk3⟩
 have HB3:=Lib.hid hb3
 have HK3:=Lib.hid (HK2.out.trans hk3)
 have HN3:=Lib.hid (hk3.2 _ _ _ _ (by decide) HBN.out HN2.out)
 have hn3:=HN3.out
 obtain⟨z0,z1,z2,z3,z4,z5⟩:=kAx hn3
 clear hb3 hk3 hn3
 go_wp2_with fail
 refine (HH.out _ HB3.out.2).mono ?_
 rintro e w4 ⟨y,rfl,hy1,hy2,hy3⟩
 have HY:=Lib.hid (And.intro hy1 hy3)
 have HB4:=Lib.hid (HB3.out.ext hy2)
 have HK4:=Lib.hid (HK3.out.trans (BdK.ext b hy2))
 have HN4:=Lib.hid (hy2.at HN3.out (by simp))
 clear hy1 hy2 hy3 z0 z1 z2 z3 z4 z5
 go_wp2_with fail
 refine (join_slc HY.out.1 HY.out.2 (by rw [HJ.out];have:=HLEN.out;omega) (by have:=HHN.out;omega)).mono ?_
 rw [HJ.out]
 rintro e w5 ⟨rfl,hu5⟩
 have HB5:=Lib.hid (HB4.out.ext hu5)
 have HK5:=Lib.hid (HK4.out.trans (BdK.ext b hu5))
 have HN5:=Lib.hid (hu5.at HN4.out (by simp))
 clear hu5
 go_wp2_with fail
 refine (wstr_calls w0 w5 b (bs++R) J HB5.out (by rw [List.length_append];have:=HLEN.out;omega)).mono ?_
 rintro e w6 ⟨rfl,hb6,hk6⟩
 have HB6:=Lib.hid hb6
 have HK6:=Lib.hid (HK5.out.trans hk6)
 have HN6:=Lib.hid (hk6.2 _ _ _ _ (by decide) HBN.out HN5.out)
 clear hb6 hk6
 go_wp2_with fail
 refine (wbyte_calls w0 w6 b (bs++R++J) 10 HB6.out (by rw [List.length_append,List.length_append];have:=HLEN.out;omega)).mono ?_
 rintro e w7 ⟨rfl,hb7,hk7⟩
 have HB7:=Lib.hid hb7
 have HK7:=Lib.hid (HK6.out.trans hk7)
 have HN7:=Lib.hid (hk7.2 _ _ _ _ (by decide) HBN.out HN6.out)
 have hn7:=HN7.out
 obtain⟨z0,z1,z2,z3,z4,z5⟩:=kAx hn7
 clear hb7 hk7 hn7
 go_wp2_with fail
 go_loopw [22] (fun i wr=>∃j:Nat,j≤L∧i=.int .i64 j∧Hid (BdI w0 wr b (bs++R++J++[10]++kHj (d+1) (l.take j)))∧Hid (BdK w wr b)) (fun i _=>L-(intOf i).toNat)
 case atStart=>exact⟨0,by omega,rfl,Lib.hid (by have:=HB7.out;simpa [kHj] using this),HK7⟩
 case round =>
  obtain⟨j,hj,rfl,HB,HK⟩:=hrel
  clear z0 z1 z2 z3 z4 z5
  have hj0:(0:Int)≤j:=by omega
  rcases Nat.lt_or_ge j L with hlt | hge
  ·have hltI:(j:Int)<L:=by omega
   obtain⟨x,hx⟩:∃x,l[j]?=some x:=⟨_,List.getElem?_eq_getElem (by rw [HL.out];exact hlt)⟩
   obtain⟨g,o,xo,xn1,xn2,xn3,xs,xm,xq,xl1,xl2,xl3,rfl,c0,c1,c2',c3,c4,c5,hn⟩:=HLS.out j x hx
   replace c0:=kAw HB.out.2 c0
   replace c1:=kAw HB.out.2 c1
   replace c2':=(HB.out.2.cell (World.block_lt_of_cell? w0 _ c2') (by simp)).trans c2'
   replace c3:=kAw HB.out.2 c3
   replace c4:=kAw HB.out.2 c4
   replace c5:=kAw HB.out.2 c5
   have HX:=Lib.hid hn
   have hxm:=List.mem_of_getElem? hx
   have HT:Hid (l.take (j+1)=l.take j++[x]):=Lib.hid (by
    obtain⟨hi,h2⟩:=List.getElem?_eq_some_iff.1 hx
    rw [List.take_succ_eq_append_getElem hi,h2])
   have HXM:=Lib.hid hxm
   have hua:Upto [] wr (wr.alloc (.cells #[.int .i64 xo,.slice xn1 xn2 xn3,.int .i64 xs,.int .i64 xm,.int .i64 xq,.slice xl1 xl2 xl3] 34)):=(Upto.refl [] wr).alloc _
   have HBA:=Lib.hid (HB.out.ext hua)
   have HKA:=Lib.hid (HK.out.trans (BdK.ext b hua))
   have HSZ:Hid ((kHj (d+1) (l.take j)).length+(kRj (d+1) x).length≤(kHj (d+1) l).length):=Lib.hid (by
    have h1:=kTz (d+1) l (j+1)
    rw [HT.out,kQq,List.length_append] at h1
    exact h1)
   clear hx hn hxm hua
   go_wp2_with fail
   refine (HC.out x HXM.out _ HX.out _ _ HBA.out (by simp only [List.length_append,List.length_cons,List.length_nil];have h1:=HSZ.out;have h2:=HLEN.out;omega)).mono ?_
   rintro e w8 ⟨rfl,hb8,hk8⟩
   have HB8:=Lib.hid hb8
   have HK8:=Lib.hid (HKA.out.trans hk8)
   clear hb8 hk8
   go_wp2_with fail
   go_roundw
   case rel=>exact⟨j+1,by omega,by go_num,Lib.hid (by have:=HB8.out;rw [HT.out,kQq];simpa using this),HK8⟩
   case measure=>simp [intOf];omega
  ·have hgeI:¬(j:Int)<L:=by omega
   have HTA:Hid (l.take j=l):=Lib.hid (List.take_of_length_le (by rw [HL.out];exact hge))
   go_wp2_with fail
   refine bodyPost_end (v:=.tuple #[]) (by simp [results,Tryz.results85,go_sem]) rfl ⟨rfl,?_,HK.out⟩
   have:=HB.out
   rw [HTA.out] at this
   rw [←HFN.out]
   simpa using this
theorem jn_txs' (L:List PL.Tok):Lib.join (txs L) [32]=jn L:=(jn_join L).symm
theorem head_calls {op so n m:Int} {names:List (List UInt8)} {l:List Nd} (hok:okF (.mk op names so n m l)) {w0:World} {P:Nat→Prop} {a1 a2:Option Addr} {c1 c2:Nat} (hPE:∀u,Upto [] w0 u→PEnv u∧SEnv u) (hA:AtomP w0 P) (h:NdV w0 P (.mk op names so n m l) (.agg #[.int .i64 op,.slice a1 names.length c1,.int .i64 so,.int .i64 n,.int .i64 m,.slice a2 l.length c2])) :
  ∀u,Upto [] w0 u→Calls Tryz.prog 123 #[.agg #[.int .i64 op,.slice a1 names.length c1,.int .i64 so,.int .i64 n,.int .i64 m,.slice a2 l.length c2]] u (kXw u (txs (headT op names so n m))):=by
 intro u hu
 have hop:=ok_op hok
 have hPE':∀z,Upto [] u z→PEnv z∧SEnv z:=fun z hz=>hPE z (hu.trans_ext hz)
 unfold headT
 by_cases h11:op<11
 ·rw [if_pos h11]
  exact head_atom op so n m a1 _ c1 a2 _ c2 _ u hop.1 h11 (fun z hz=>(hPE' z hz).1) (fun z hz=>hA op so n m names l _ hok h11 h z (hu.trans_ext hz))
 rw [if_neg h11]
 have hok':=hok
 unfold okF at hok'
 obtain⟨hnm,hc,-⟩:=hok'
 by_cases h15:15<op
 ·rw [if_pos h15]
  have hn1:names.length=1:=by omega
  have hso:0≤so∧so<4:=by omega
  obtain⟨x,rfl⟩:=one_of hn1
  have e:txs [kyT (quW op),kyT (kDj.getD so.toNat []),idT (([x]:List (List UInt8)).getD 0 []),puT 58]=[quW op,kOj so,x,[58]]:=by
   rw [sort_wd hso.1 hso.2]
   rfl
  rw [e]
  refine head_qu op so n m a1 _ c1 a2 _ c2 _ u (by omega) hop.2 (fun z hz=>(hPE' z hz).1) (fun z hz=>?_)
  obtain⟨b1,d1,b2,d2,he,hs,-⟩:=(h.ext (hu.trans_ext hz)).open
  simp only [Value.agg.injEq,Array.mk.injEq,List.cons.injEq,Value.slice.injEq,true_and,and_true] at he
  obtain⟨⟨rfl,rfl⟩,-⟩:=he
  obtain⟨a,c,he2,hg⟩:=hs.get
  simp only [Value.slice.injEq] at he2
  obtain⟨rfl,-,rfl⟩:=he2
  obtain⟨gn,on,rfl,dn⟩:=hg 0 (sV x) rfl
  rw [Nat.add_zero] at dn
  exact quantifier_calls op so n m _ _ _ _ _ _ x z (hPE' z hz).1 (hPE' z hz).2 (by omega) hop.2 ⟨gn,on,rfl,dn⟩ (by simp)
 ·rw [if_neg h15]
  obtain⟨k,rfl⟩:=kUj hop.1
  have hw:pwordL[k]?=some (if (k:Int)=11 then [110,111,116] else conW k):=by
   by_cases e11:k=11
   ·subst e11;rfl
   ·rw [if_neg (by omega)]
    have:=con_word ⟨k-12,by omega⟩
    simp only at this
    rw [show 12+(k-12)=k by omega] at this
    rw [this]
    congr 2
    omega
  exact head_word k so n m a1 _ c1 a2 _ c2 _ u (by omega) (by omega) hw (fun z hz=>(hPE' z hz).1)
theorem lines_calls:∀(k:Nat) (nd:Nd),kCz nd≤k→okF nd→∀(d:Nat),d+k≤1000000000→∀(w0:World) (b:Nat) (P:Nat→Prop) (v:Value),(∀u,Upto [] w0 u→PEnv u∧SEnv u)→AtomP w0 P→NdV w0 P nd v→∀(w:World) (bs:List UInt8),BdI w0 w b bs→bs.length+(kRj d nd).length≤100000000000000 →
  Calls Tryz.prog 85 #[.pointer (some ⟨b,0,none⟩),v,.int .i64 (d:Int)] w fun e w'=>e=.returned (.tuple #[])∧BdI w0 w' b (bs++kRj d nd)∧BdK w w' b
 | 0,nd,hk,_,_,_,_,_,_,_,_,_,_,_,_,_,_=>by have:=kJx nd;omega
 | k+1,.mk op names so n m l,hk,hok,d,hd,w0,b,P,v,hPE,hA,h,w,bs,hB,hlen=>by
  obtain⟨a1,c1,a2,c2,rfl,hs,hls⟩:=h.open
  have hH:=head_calls hok hPE hA h
  have hok':=hok
  unfold okF at hok'
  obtain⟨hnm,hc,hss⟩:=hok'
  have hsz:kBk l≤k:=by unfold kCz at hk;omega
  have hll:l.length≤2:=by
   rcases hc with⟨-,-,h,-⟩ | ⟨-,-,-,h,-⟩ | ⟨-,-,h,-⟩ | ⟨-,-,h,-⟩ | ⟨-,-,h,-⟩ | ⟨-,-,-,h,-⟩ | ⟨-,-,h,-⟩ | ⟨-,-,-,h,-⟩ | ⟨-,-,-,h,-⟩
   ·rw [h];simp
   ·rw [h];simp
   ·rw [h];simp
   ·rw [h];simp
   ·rw [h];simp
   ·rw [h];simp
   ·omega
   ·omega
   ·omega
  have hhn:(txs (headT op names so n m)).length≤1000000:=by
   rw [txs_len]
   unfold headT
   split
   ·have h1:=len_wts (kIk op names n m)
    have h2:=pr_le hok true
    rename_i h11
    rw [prT_atom true h11] at h2
    unfold kCz at h2
    have h3:l=[]:=by
     rcases hc with⟨-,-,h,-⟩ | ⟨-,-,-,h,-⟩ | ⟨-,-,h,-⟩ | ⟨-,-,h,-⟩ | ⟨-,-,h,-⟩ | ⟨-,-,-,h,-⟩ | ⟨h,-⟩ | ⟨h,-⟩ | ⟨h,-⟩
     ·exact h
     ·exact h
     ·exact h
     ·exact h
     ·exact h
     ·exact h
     ·omega
     ·omega
     ·omega
    subst h3
    simp only [kBk] at h2
    omega
   ·split<;>simp
  rw [kRj] at hlen ⊢
  rw [←jn_txs'] at hlen ⊢
  exact lines_walk op so n m a1 _ c1 a2 c2 l l.length rfl w0 P b d (by omega) (txs (headT op names so n m)) hls (by omega) hH hhn
   (fun x hx v hv u bs hb hl=>by
    have h1:=oks_mem hx
    have:=lines_calls k x (by omega) (h1.2 hss) (d+1) (by omega) w0 b P v hPE hA hv u bs hb hl
    simpa using this) w bs hB hlen
theorem ratom_calls {w0:World} {P:Nat→Prop} (op so n m:Int) (names:List (List UInt8)) (l:List Nd) (v:Value) (hok:okF (.mk op names so n m l)) (hop:op<11) (h:NdV w0 P (.mk op names so n m l) v):∀u,Upto [] w0 u→Calls Tryz.prog 111 #[v] u fun e w'=>e=.returned (.string ⟨(jn (kIk op names n m)).toArray⟩)∧Upto [] u w':=by
 intro u hu
 obtain⟨a1,c1,a2,c2,rfl,hs,-⟩:=(h.ext hu).open
 unfold okF at hok
 obtain⟨hnm,hc,-⟩:=hok
 have hx16:∀x∈names,x.length≤16:=fun x hx=>kUx (hnm x hx)
 have cell:∀j x,names[j]?=some x→∃g o,a1=some ⟨g,o,none⟩∧u.cell? ⟨g,o+j,none⟩=some (.string ⟨x.toArray⟩):=fun j x hj=>by
  obtain⟨a,c,he,hg⟩:=hs.get
  simp only [Value.slice.injEq] at he
  obtain⟨rfl,-,rfl⟩:=he
  exact hg j _ (by rw [List.getElem?_map,hj];rfl)
 rcases hc with⟨h1,h2,h3,rfl,rfl,rfl⟩ | ⟨h1,h1',h2,h3,rfl,rfl,rfl⟩ | ⟨rfl,h2,h3,rfl,h4,h5,rfl⟩ | ⟨rfl,h2,h3,rfl,h4,h5,h6⟩ | ⟨rfl,h2,h3,rfl,rfl,rfl⟩ | ⟨rfl,h2,h2',h3,rfl,rfl,rfl⟩ | ⟨rfl,-⟩ | ⟨h1,h2,-⟩ | ⟨h1,h2,-⟩
 ·subst h2
  rcases h1 with rfl | rfl
  ·rw [atom_true]
   exact ratom_true _ _ _ _ _ _ _ _ _ u
  ·rw [atom_false]
   exact ratom_false _ _ _ _ _ _ _ _ _ u
 ·obtain⟨k,rfl⟩:=kUj (show 0≤op by omega)
  obtain⟨x,y,rfl⟩:=two_of h2
  obtain⟨g,o,rfl,d0⟩:=cell 0 x rfl
  obtain⟨g',o',he,d1⟩:=cell 1 y rfl
  simp only [Option.some.injEq,Addr.mk.injEq,and_true] at he
  obtain⟨rfl,rfl⟩:=he
  rw [atom_two (by omega) (by omega)]
  exact ratom_two _ _ _ k (by omega) (by omega) g o _ _ _ _ _ x y (by have:=hx16 x (by simp);omega) (by have:=hx16 y (by simp);omega) u d0 d1 (by simp)
 ·obtain⟨q,rfl⟩:=kUj h4
  obtain⟨x,rfl⟩:=one_of h2
  obtain⟨g,o,rfl,d0⟩:=cell 0 x rfl
  rw [atom_is]
  exact ratom_is _ _ q (by omega) g o _ _ _ _ _ x (by have:=hx16 x (by simp);omega) u d0 (by simp)
 ·obtain⟨q,rfl⟩:=kUj h4
  obtain⟨p,rfl⟩:=kUj (show 0≤m by omega)
  obtain⟨x,rfl⟩:=one_of h2
  obtain⟨g,o,rfl,d0⟩:=cell 0 x rfl
  rw [atom_size]
  exact ratom_size _ q p (by omega) (by omega) g o _ _ _ _ _ x (by have:=hx16 x (by simp);omega) u d0 (by simp)
 ·obtain⟨x,rfl⟩:=one_of h2
  obtain⟨g,o,rfl,d0⟩:=cell 0 x rfl
  rw [atom_one]
  exact ratom_one _ _ _ g o _ _ _ _ _ x (by have:=hx16 x (by simp);omega) u d0 (by simp)
 ·obtain⟨f,ys,rfl⟩:=cons_of h2
  obtain⟨g,o,rfl,d0⟩:=cell 0 f rfl
  rw [atom_call]
  refine ratom_call _ _ _ g o _ _ _ _ f ys (f::ys) rfl (by omega) hx16 u (fun i x hi=>?_)
  obtain⟨g',o',he,d1⟩:=cell i x hi
  simp only [Option.some.injEq,Addr.mk.injEq,and_true] at he
  obtain⟨rfl,rfl⟩:=he
  exact d1
 ·omega
 ·omega
 ·omega
theorem binds_calls (k:Nat) (h16:16≤k) (h18:k<18) (so nn mm:Int) (g o b2 b3:Nat) (d1:Option Addr) (d2 d3:Nat) (x:List UInt8) (hlx:x.length≤1000000000) (w:World) (c1:w.cell? ⟨g,o,none⟩=some (.string ⟨x.toArray⟩)) (hb2:1≤b2):Calls Tryz.prog 113 #[.agg #[.int .i64 (k:Int),.slice (some ⟨g,o,none⟩) b2 b3,.int .i64 so,.int .i64 nn,.int .i64 mm,.slice d1 d2 d3]] w fun e w'=>e=.returned (.string ⟨(quW (k:Int)++[32]++kOj so++[32]++x++[32,58]).toArray⟩)∧Upto [] w w':=by
 have hb2I:(0:Int)<b2:=by omega
 have hwl:=wordsF_len k
 have HWD:=Lib.hid (fun u=>word_calls k (by omega) u)
 rw [refW_word (by omega) (by omega),←quW_word ⟨h16,h18⟩] at HWD
 rw [←quW_word ⟨h16,h18⟩] at hwl
 have HSO:=Lib.hid (fun u=>sorted_calls so u)
 have hsl:(kOj so).length≤10:=by
  unfold kOj
  split
  ·decide
  split
  ·decide
  split
  ·decide
  split
  ·decide
  ·decide
 have hu1:Upto [] w (w.alloc (.cells #[.int .i64 (k:Int),.slice (some ⟨g,o,none⟩) b2 b3,.int .i64 so,.int .i64 nn,.int .i64 mm,.slice d1 d2 d3] 25)):=(Upto.refl [] w).alloc _
 have HU:=Lib.hid hu1
 replace c1:=kAw hu1 c1
 have hb:=kAq w (.cells #[.int .i64 (k:Int),.slice (some ⟨g,o,none⟩) b2 b3,.int .i64 so,.int .i64 nn,.int .i64 mm,.slice d1 d2 d3] 25)
 obtain⟨y0,y1,y2⟩:=cells3 hb
 have e0:=fun u:Ext (w.alloc (.cells #[.int .i64 (k:Int),.slice (some ⟨g,o,none⟩) b2 b3,.int .i64 so,.int .i64 nn,.int .i64 mm,.slice d1 d2 d3] 25))=>u.cell y0
 have e1:=fun u:Ext (w.alloc (.cells #[.int .i64 (k:Int),.slice (some ⟨g,o,none⟩) b2 b3,.int .i64 so,.int .i64 nn,.int .i64 mm,.slice d1 d2 d3] 25))=>u.cell y1
 have e2:=fun u:Ext (w.alloc (.cells #[.int .i64 (k:Int),.slice (some ⟨g,o,none⟩) b2 b3,.int .i64 so,.int .i64 nn,.int .i64 mm,.slice d1 d2 d3] 25))=>u.cell y2
 have ex:=fun u:Ext (w.alloc (.cells #[.int .i64 (k:Int),.slice (some ⟨g,o,none⟩) b2 b3,.int .i64 so,.int .i64 nn,.int .i64 mm,.slice d1 d2 d3] 25))=>u.cell c1
 generalize quW (k:Int)=W at *
 generalize kOj so=S at *
 have s0:(ByteArray.mk x.toArray).size=x.length:=rfl
 have sm0:W.length+1≤9223372036854775807:=by omega
 have sm1:W.length+1+S.length≤9223372036854775807:=by omega
 have sm2:W.length+1+S.length+1≤9223372036854775807:=by omega
 have sm3:W.length+1+S.length+1+x.length≤9223372036854775807:=by omega
 have sm4:W.length+1+S.length+1+x.length+2≤9223372036854775807:=by omega
 clear hu1 hb hb2 h16 h18 hlx hwl hsl
 go_enter Tryz.func113,Tryz.ntmps113
 go_wp2_with fail
 clear y0 y1 y2 c1
 refine kFx [2,6] [] [0,1,2,3,4,5,6,7,8,9,10,11,12,13,14,15] (by kernel_rfl) (by kernel_rfl) ?_
 iterate 2 (refine kCq rfl rfl rfl rfl rfl ?_;intro K' hK';go_big_quiet_op;go_big_quiet_on)
 refine kMw rfl rfl rfl rfl (fun w=>by go_simp) (fun w' hu hd=>HWD.out w') ?_
 simp only [Act.put,List.setIfInBounds_toArray,List.set_cons_zero,List.set_cons_succ]
 iterate 3 (refine kCq rfl rfl rfl rfl rfl ?_;intro K' hK';go_big_quiet_op;go_big_quiet_on)
 refine kMw rfl rfl rfl rfl (fun w=>by go_simp) (fun w' hu hd=>HSO.out w') ?_
 simp only [Act.put,List.setIfInBounds_toArray,List.set_cons_zero,List.set_cons_succ]
 iterate 9 (refine kCq rfl rfl rfl rfl rfl ?_;intro K' hK';go_big_quiet_op;go_big_quiet_on)
 intro w9 hg
 have HW9:=Lib.hid (HU.out.trans_ext hg.up)
 clear hg e0 e1 e2 ex
 go_wp2_with fail
 go_ret
 exact⟨congrArg (fun z=>Ending.returned (.string z)) (show ByteArray.mk W.toArray++ByteArray.mk [32].toArray++ByteArray.mk S.toArray++ByteArray.mk [32].toArray++ByteArray.mk x.toArray++ByteArray.mk [32,58].toArray=⟨(W++[32]++S++[32]++x++[32,58]).toArray⟩ by simp only [ByteArray.mk_append_mk]),HW9.out⟩
theorem rfind_calls (f:List (List UInt8×Int)) (v:Value) (w:World) (P:Nat→Prop) (hv:VarsV w P v f) (hf:okV f):Calls Tryz.prog 74 #[v] w fun e w'=>e=.returned (.string ⟨([102,105,110,100]++frS f++[32,58]).toArray⟩)∧Upto [] w w':=by
 obtain⟨L,hL⟩:∃L,f.length=L:=⟨_,rfl⟩
 obtain⟨a1,a3,rfl⟩:=hv.len
 rw [hL]
 have HVS:=Lib.hid (kWj hv)
 have HSO:=Lib.hid (fun s u=>sorted_calls s u)
 have HOK:=Lib.hid hf.2.1
 have HL:=Lib.hid hL
 have hL8:L≤8:=by have:=hf.1;omega
 have HYL:Hid (∀j,(frS (f.take j)).length≤300):=Lib.hid (fun j=>by
  have h1:=frS_len (f.take j) (fun v hv'=>kUx (hf.2.1 v (List.mem_of_mem_take hv')).1)
  have h2:(f.take j).length≤8:=by rw [List.length_take];omega
  omega)
 have hLI:(L:Int)≤8:=by omega
 have hL0:(0:Int)≤L:=by omega
 obtain⟨R,hR⟩:∃R,[102,105,110,100]++frS f++[32,58]=R:=⟨_,rfl⟩
 rw [hR]
 have HRR:=Lib.hid hR
 clear hv hf hL hR
 go_enter Tryz.func74,Tryz.ntmps74
 go_wp2_with fail
 go_loopw [3,4] (fun s i wr=>∃j:Nat,j≤L∧s=.string ⟨([102,105,110,100]++frS (f.take j)).toArray⟩∧i=.int .i64 j∧Hid (Upto [] w wr)) (fun _ i _=>L-(intOf i).toNat)
 case atStart=>exact⟨0,by omega,rfl,rfl,Lib.hid (Upto.refl _ _)⟩
 case round =>
  obtain⟨j,hj,rfl,rfl,HU⟩:=hrel
  have hj0:(0:Int)≤j:=by omega
  have hyl:=HYL.out j
  rcases Nat.lt_or_ge j L with hlt | hge
  ·have hltI:(j:Int)<L:=by omega
   obtain⟨⟨x1,x2⟩,hx⟩:∃x,f[j]?=some x:=⟨_,List.getElem?_eq_getElem (by rw [HL.out];exact hlt)⟩
   obtain⟨g,o,rfl,d0,d1⟩:=HVS.out j _ hx
   simp only at d0 d1
   replace d0:=kAw HU.out d0
   replace d1:=kAw HU.out d1
   have hok:=HOK.out _ (List.mem_of_getElem? hx)
   have hxl:x1.length≤16:=kUx hok.1
   have HSW:Hid (kDj.getD x2.toNat []=kOj x2):=Lib.hid (sort_word hok.2.1 hok.2.2)
   have hzl:(kOj x2).length≤10:=by rw [←HSW.out];exact sortW_len _
   have HT:Hid (f.take (j+1)=f.take j++[(x1,x2)]):=Lib.hid (by
    obtain⟨hi,h2⟩:=List.getElem?_eq_some_iff.1 hx
    rw [List.take_succ_eq_append_getElem hi,h2])
   have hsl:([102,105,110,100]++frS (f.take j)).length≤400:=by rw [List.length_append];simp only [List.length_cons,List.length_nil];omega
   by_cases hz:j=0
   ·subst hz
    have HFE:Hid ([102,105,110,100]++frS (f.take 1)=[102,105,110,100]++frS (f.take 0)++[32]++kOj x2++[32]++x1):=Lib.hid (by
     rw [HT.out,List.take_zero,frS_snoc,HSW.out]
     simp [frS_nil])
    generalize [102,105,110,100]++frS (f.take 0)=S at *
    have HZ:Hid (∀u,Calls Tryz.prog 20 #[.int .i64 x2] u fun e w'=>e=.returned (.string ⟨(kOj x2).toArray⟩)∧Upto [] u w'):=Lib.hid (fun u=>HSO.out x2 u)
    generalize kOj x2=Z at *
    clear hx HT HSW hok hyl
    simp only [Nat.zero_mul,Nat.add_zero] at d0 d1
    have e0:=fun u:Ext wr=>u.cell d0
    have e1:=fun u:Ext wr=>u.cell d1
    clear d0 d1
    have sm0:S.length+1≤9223372036854775807:=by omega
    have sm1:S.length+1+Z.length≤9223372036854775807:=by omega
    have sm2:S.length+1+Z.length+1≤9223372036854775807:=by omega
    have sm3:S.length+1+Z.length+1+x1.length≤9223372036854775807:=by omega
    go_wp2_with fail
    refine kFx [7] [] [0,1,2,3,4,5,6,7,8,9,10,11,12,13,14,15,16] (by kernel_rfl) (by kernel_rfl) ?_
    iterate 7 (refine kCq rfl rfl rfl rfl rfl ?_;intro K' hK';go_big_quiet_op;go_big_quiet_on)
    refine kMw rfl rfl rfl rfl (fun w=>by go_simp) (fun w' hu hd=>HZ.out w') ?_
    simp only [Act.put,List.setIfInBounds_toArray,List.set_cons_zero,List.set_cons_succ]
    iterate 9 (refine kCq rfl rfl rfl rfl rfl ?_;intro K' hK';go_big_quiet_op;go_big_quiet_on)
    intro w9 hg
    have HW9:=Lib.hid (HU.out.trans_ext hg.up)
    clear hg e0 e1
    go_wp2_with fail
    go_roundw
    case rel =>
     refine⟨1,by omega,?_,by go_num,HW9⟩
     rw [HFE.out]
     exact congrArg Value.string (show ByteArray.mk S.toArray++ByteArray.mk [32].toArray++ByteArray.mk Z.toArray++ByteArray.mk [32].toArray++ByteArray.mk x1.toArray=⟨(S++[32]++Z++[32]++x1).toArray⟩ by simp only [ByteArray.mk_append_mk])
    case measure=>simp [intOf];omega
   ·have hzJ:(0:Int)<j:=by omega
    have HFE:Hid ([102,105,110,100]++frS (f.take (j+1))=[102,105,110,100]++frS (f.take j)++[32,44]++[32]++kOj x2++[32]++x1):=Lib.hid (by
     have hne:f.take j≠[]:=fun h=>by
      have:=congrArg List.length h
      rw [List.length_take,HL.out,List.length_nil] at this
      omega
     rw [HT.out,frS_snoc,if_neg hne,HSW.out]
     simp)
    generalize [102,105,110,100]++frS (f.take j)=S at *
    have HZ:Hid (∀u,Calls Tryz.prog 20 #[.int .i64 x2] u fun e w'=>e=.returned (.string ⟨(kOj x2).toArray⟩)∧Upto [] u w'):=Lib.hid (fun u=>HSO.out x2 u)
    generalize kOj x2=Z at *
    clear hx HT HSW hok hyl hz
    have e0:=fun u:Ext wr=>u.cell d0
    have e1:=fun u:Ext wr=>u.cell d1
    clear d0 d1
    have sm0:S.length+2+1≤9223372036854775807:=by omega
    have sm1:S.length+2+1+Z.length≤9223372036854775807:=by omega
    have sm2:S.length+2+1+Z.length+1≤9223372036854775807:=by omega
    have sm3:S.length+2+1+Z.length+1+x1.length≤9223372036854775807:=by omega
    have smc:S.length+2≤9223372036854775807:=by omega
    go_wp2_with fail
    refine kFx [7] [] [0,1,2,3,4,5,6,7,8,9,10,11,12,13,14,15,16] (by kernel_rfl) (by kernel_rfl) ?_
    iterate 7 (refine kCq rfl rfl rfl rfl rfl ?_;intro K' hK';go_big_quiet_op;go_big_quiet_on)
    refine kMw rfl rfl rfl rfl (fun w=>by go_simp) (fun w' hu hd=>HZ.out w') ?_
    simp only [Act.put,List.setIfInBounds_toArray,List.set_cons_zero,List.set_cons_succ]
    iterate 9 (refine kCq rfl rfl rfl rfl rfl ?_;intro K' hK';go_big_quiet_op;go_big_quiet_on)
    intro w9 hg
    have HW9:=Lib.hid (HU.out.trans_ext hg.up)
    clear hg e0 e1
    go_wp2_with fail
    go_roundw
    case rel =>
     refine⟨j+1,by omega,?_,by go_num,HW9⟩
     rw [HFE.out]
     exact congrArg Value.string (show ByteArray.mk S.toArray++ByteArray.mk [32,44].toArray++ByteArray.mk [32].toArray++ByteArray.mk Z.toArray++ByteArray.mk [32].toArray++ByteArray.mk x1.toArray=⟨(S++[32,44]++[32]++Z++[32]++x1).toArray⟩ by simp only [ByteArray.mk_append_mk])
    case measure=>simp [intOf];omega
  ·have hgeI:¬(j:Int)<L:=by omega
   have HTA:Hid (f.take j=f):=Lib.hid (List.take_of_length_le (by rw [HL.out];exact hge))
   rw [HTA.out] at hyl ⊢
   have hsl:([102,105,110,100]++frS f).length≤400:=by rw [List.length_append];simp only [List.length_cons,List.length_nil];omega
   obtain⟨S,hS⟩:∃S,[102,105,110,100]++frS f=S:=⟨_,rfl⟩
   rw [hS] at hsl ⊢
   have HSS:=Lib.hid hS
   clear hS
   have sm0:S.length+2≤9223372036854775807:=by omega
   go_wp2_with fail
   go_ret
   exact⟨congrArg (fun z=>Ending.returned (.string z)) (show ByteArray.mk S.toArray++ByteArray.mk [32,58].toArray=⟨R.toArray⟩ by rw [ByteArray.mk_append_mk,←HRR.out,←HSS.out]),HU.out⟩
theorem rlines_atom (op so nn mm:Int) (b1:Option Addr) (b2 b3:Nat) (a2:Option Addr) (c2:Nat) (l:List Nd) (L:Nat) (hL:l.length=L) (P:Nat→Prop) (d:Nat) (hd:d≤1000000000) (J:List UInt8) (w:World) (hls:LsAt w P a2 l) (hll:L≤1000000000) (h11:op<11)
  (hhd:∀u,Upto [] w u→Calls Tryz.prog 111 #[.agg #[.int .i64 op,.slice b1 b2 b3,.int .i64 so,.int .i64 nn,.int .i64 mm,.slice a2 L c2]] u fun e w'=>e=.returned (.string ⟨J.toArray⟩)∧Upto [] u w')
  (hch:∀x∈l,∀v,NdV w P x v→∀u,Upto [] w u→Calls Tryz.prog 87 #[v,.string ⟨(List.replicate (2*(d+1)) (32:UInt8)).toArray⟩] u fun e w'=>e=.returned (.string ⟨(kRj (d+1) x).toArray⟩)∧Upto [] u w')
  (hlen:(List.replicate (2*d) (32:UInt8)++(J++10::kHj (d+1) l)).length≤100000000000000) :
  Calls Tryz.prog 87 #[.agg #[.int .i64 op,.slice b1 b2 b3,.int .i64 so,.int .i64 nn,.int .i64 mm,.slice a2 L c2],.string ⟨(List.replicate (2*d) (32:UInt8)).toArray⟩] w fun e w'=>e=.returned (.string ⟨(List.replicate (2*d) (32:UInt8)++(J++10::kHj (d+1) l)).toArray⟩)∧Upto [] w w':=by
 have HU1:Hid (Upto [] w (w.alloc (.cells #[.int .i64 op,.slice b1 b2 b3,.int .i64 so,.int .i64 nn,.int .i64 mm,.slice a2 L c2] 25))):=Lib.hid ((Upto.refl [] w).alloc _)
 have hb:=kAq w (.cells #[.int .i64 op,.slice b1 b2 b3,.int .i64 so,.int .i64 nn,.int .i64 mm,.slice a2 L c2] 25)
 have HB1:=Lib.hid hb
 obtain⟨y0,y1,y2,y3,y4,y5⟩:=kAx hb
 have HHD:=Lib.hid hhd
 have HC:=Lib.hid hch
 have HLS:=Lib.hid hls
 have HL:=Lib.hid hL
 obtain⟨R,hR⟩:∃R,List.replicate (2*d) (32:UInt8)=R:=⟨_,rfl⟩
 have hRl:R.length=2*d:=by rw [←hR];simp
 have hR2:List.replicate (2*(d+1)) (32:UInt8)=R++[32,32]:=by
  rw [←hR,show 2*(d+1)=2*d+1+1 by omega,List.replicate_succ',List.replicate_succ']
  simp
 rw [hR2] at HC
 rw [hR] at hlen ⊢
 simp only [List.length_append,List.length_cons] at hlen
 obtain⟨FIN,hF⟩:∃F,R++(J++10::kHj (d+1) l)=F:=⟨_,rfl⟩
 rw [hF]
 have HFN:=Lib.hid hF
 have HLEN:=Lib.hid hlen
 have s0:(ByteArray.mk R.toArray).size=R.length:=rfl
 have s1:(ByteArray.mk J.toArray).size=J.length:=rfl
 have sm0:R.length+J.length≤9223372036854775807:=by omega
 have sm1:R.length+J.length+1≤9223372036854775807:=by omega
 have sm2:R.length+2≤9223372036854775807:=by omega
 have hl0:(0:Int)≤L:=by omega
 have hl1:(L:Int)≤1000000000:=by omega
 have q3:op<11:=h11
 clear hhd hch hls hL hlen hF hll hR hR2 hb hd
 go_enter Tryz.func87,Tryz.ntmps87
 go_wp2_with fail
 refine (HHD.out _ HU1.out).mono ?_
 rintro e w2 ⟨rfl,hu2⟩
 have HU2:=Lib.hid (HU1.out.trans_ext hu2)
 have HB2:=Lib.hid (hu2.at HB1.out (by simp))
 have hc1:ByteArray.mk R.toArray++ByteArray.mk J.toArray=⟨(R++J).toArray⟩:=by rw [ByteArray.mk_append_mk]
 have s2:(ByteArray.mk (R++J).toArray).size=R.length+J.length:=by show (R++J).toArray.size=_;simp
 have hc2:ByteArray.mk (R++J).toArray++ByteArray.mk #[10]=⟨(R++J++[10]).toArray⟩:=by
  rw [show ByteArray.mk #[10]=ByteArray.mk [10].toArray from rfl,ByteArray.mk_append_mk]
 clear hu2 y0 y1 y2 y3 y4 y5
 go_wp2_with fail
 go_loopw [5,6] (fun s i wr=>∃j:Nat,j≤L∧i=.int .i64 j∧s=.string ⟨(R++J++[10]++kHj (d+1) (l.take j)).toArray⟩∧Hid (Upto [] w2 wr)) (fun _ i _=>L-(intOf i).toNat)
 case atStart=>exact⟨0,by omega,rfl,by simp [kHj],Lib.hid (Upto.refl _ _)⟩
 case round =>
  obtain⟨j,hj,rfl,rfl,HW⟩:=hrel
  clear hc1 hc2 s2
  have hj0:(0:Int)≤j:=by omega
  have hb:=HW.out.at HB2.out (by simp)
  obtain⟨z0,z1,z2,z3,z4,z5⟩:=kAx hb
  clear hb
  have hpl:(R++J++[10]++kHj (d+1) (l.take j)).length≤100000000000000:=by
   have h1:=kTz (d+1) l j
   have h2:=HLEN.out
   simp only [List.length_append,List.length_cons,List.length_nil]
   omega
  have HPP:Hid (R++J++[10]++kHj (d+1) (l.take j)=R++J++[10]++kHj (d+1) (l.take j)):=Lib.hid rfl
  rcases Nat.lt_or_ge j L with hlt | hge
  ·have hltI:(j:Int)<L:=by omega
   obtain⟨x,hx⟩:∃x,l[j]?=some x:=⟨_,List.getElem?_eq_getElem (by rw [HL.out];exact hlt)⟩
   obtain⟨g,o,xo,xn1,xn2,xn3,xs,xm,xq,xl1,xl2,xl3,rfl,c0,c1,c2',c3,c4,c5,hn⟩:=HLS.out j x hx
   replace c0:=((HU2.out.trans_ext HW.out).cell (World.block_lt_of_cell? w _ c0) (by simp)).trans c0
   replace c1:=((HU2.out.trans_ext HW.out).cell (World.block_lt_of_cell? w _ c1) (by simp)).trans c1
   replace c2':=((HU2.out.trans_ext HW.out).cell (World.block_lt_of_cell? w _ c2') (by simp)).trans c2'
   replace c3:=((HU2.out.trans_ext HW.out).cell (World.block_lt_of_cell? w _ c3) (by simp)).trans c3
   replace c4:=((HU2.out.trans_ext HW.out).cell (World.block_lt_of_cell? w _ c4) (by simp)).trans c4
   replace c5:=((HU2.out.trans_ext HW.out).cell (World.block_lt_of_cell? w _ c5) (by simp)).trans c5
   have HXM:=Lib.hid (List.mem_of_getElem? hx)
   have HX:=Lib.hid hn
   have HT:Hid (l.take (j+1)=l.take j++[x]):=Lib.hid (by
    obtain⟨hi,h2⟩:=List.getElem?_eq_some_iff.1 hx
    rw [List.take_succ_eq_append_getElem hi,h2])
   have hxl:(kRj (d+1) x).length≤100000000000000:=by
    have h1:=kTz (d+1) l (j+1)
    rw [HT.out,kQq,List.length_append] at h1
    have h2:=HLEN.out
    omega
   have HNX:Hid (R++J++[10]++kHj (d+1) (l.take (j+1))=R++J++[10]++kHj (d+1) (l.take j)++kRj (d+1) x):=Lib.hid (by rw [HT.out,kQq];simp)
   obtain⟨Q,hQ⟩:∃Q,R++J++[10]++kHj (d+1) (l.take j)=Q:=⟨_,rfl⟩
   rw [hQ] at hpl HNX ⊢
   have HCX:=Lib.hid (fun u (hu:Upto [] w u)=>HC.out x HXM.out _ HX.out u hu)
   generalize kRj (d+1) x=X at *
   have q0:(ByteArray.mk Q.toArray).size=Q.length:=rfl
   have q1:(ByteArray.mk X.toArray).size=X.length:=rfl
   have qm:Q.length+X.length≤9223372036854775807:=by omega
   have hc3:ByteArray.mk R.toArray++ByteArray.mk #[32,32]=⟨(R++[32,32]).toArray⟩:=by
    rw [show ByteArray.mk #[32,32]=ByteArray.mk [32,32].toArray from rfl,ByteArray.mk_append_mk]
   clear hx hn hQ HPP
   go_wp2_with fail
   refine (HCX.out _ (HU2.out.trans_ext HW.out)).mono ?_
   rintro e w3 ⟨rfl,hu3⟩
   have HW3:=Lib.hid (HW.out.trans_ext hu3)
   have hc4:ByteArray.mk Q.toArray++ByteArray.mk X.toArray=⟨(Q++X).toArray⟩:=by rw [ByteArray.mk_append_mk]
   clear hu3 hc3
   go_wp2_with fail
   go_roundw
   case rel=>exact⟨j+1,by omega,by go_num,by rw [HNX.out],HW3⟩
   case measure=>simp [intOf];omega
  ·have hgeI:¬(j:Int)<L:=by omega
   have HTA:Hid (l.take j=l):=Lib.hid (List.take_of_length_le (by rw [HL.out];exact hge))
   have HFE:Hid (R++J++[10]++kHj (d+1) (l.take j)=FIN):=Lib.hid (by rw [HTA.out,←HFN.out];simp)
   rw [HFE.out]
   go_wp2_with fail
   go_ret
   exact⟨rfl,HU2.out.trans_ext HW.out⟩
theorem rlines_qu (op so nn mm:Int) (b1:Option Addr) (b2 b3:Nat) (a2:Option Addr) (c2:Nat) (l:List Nd) (L:Nat) (hL:l.length=L) (P:Nat→Prop) (d:Nat) (hd:d≤1000000000) (J:List UInt8) (w:World) (hls:LsAt w P a2 l) (hll:L≤1000000000) (h15:15<op)
  (hhd:∀u,Upto [] w u→Calls Tryz.prog 113 #[.agg #[.int .i64 op,.slice b1 b2 b3,.int .i64 so,.int .i64 nn,.int .i64 mm,.slice a2 L c2]] u fun e w'=>e=.returned (.string ⟨J.toArray⟩)∧Upto [] u w')
  (hch:∀x∈l,∀v,NdV w P x v→∀u,Upto [] w u→Calls Tryz.prog 87 #[v,.string ⟨(List.replicate (2*(d+1)) (32:UInt8)).toArray⟩] u fun e w'=>e=.returned (.string ⟨(kRj (d+1) x).toArray⟩)∧Upto [] u w')
  (hlen:(List.replicate (2*d) (32:UInt8)++(J++10::kHj (d+1) l)).length≤100000000000000) :
  Calls Tryz.prog 87 #[.agg #[.int .i64 op,.slice b1 b2 b3,.int .i64 so,.int .i64 nn,.int .i64 mm,.slice a2 L c2],.string ⟨(List.replicate (2*d) (32:UInt8)).toArray⟩] w fun e w'=>e=.returned (.string ⟨(List.replicate (2*d) (32:UInt8)++(J++10::kHj (d+1) l)).toArray⟩)∧Upto [] w w':=by
 have HU1:Hid (Upto [] w (w.alloc (.cells #[.int .i64 op,.slice b1 b2 b3,.int .i64 so,.int .i64 nn,.int .i64 mm,.slice a2 L c2] 25))):=Lib.hid ((Upto.refl [] w).alloc _)
 have hb:=kAq w (.cells #[.int .i64 op,.slice b1 b2 b3,.int .i64 so,.int .i64 nn,.int .i64 mm,.slice a2 L c2] 25)
 have HB1:=Lib.hid hb
 obtain⟨y0,y1,y2,y3,y4,y5⟩:=kAx hb
 have HHD:=Lib.hid hhd
 have HC:=Lib.hid hch
 have HLS:=Lib.hid hls
 have HL:=Lib.hid hL
 obtain⟨R,hR⟩:∃R,List.replicate (2*d) (32:UInt8)=R:=⟨_,rfl⟩
 have hRl:R.length=2*d:=by rw [←hR];simp
 have hR2:List.replicate (2*(d+1)) (32:UInt8)=R++[32,32]:=by
  rw [←hR,show 2*(d+1)=2*d+1+1 by omega,List.replicate_succ',List.replicate_succ']
  simp
 rw [hR2] at HC
 rw [hR] at hlen ⊢
 simp only [List.length_append,List.length_cons] at hlen
 obtain⟨FIN,hF⟩:∃F,R++(J++10::kHj (d+1) l)=F:=⟨_,rfl⟩
 rw [hF]
 have HFN:=Lib.hid hF
 have HLEN:=Lib.hid hlen
 have s0:(ByteArray.mk R.toArray).size=R.length:=rfl
 have s1:(ByteArray.mk J.toArray).size=J.length:=rfl
 have sm0:R.length+J.length≤9223372036854775807:=by omega
 have sm1:R.length+J.length+1≤9223372036854775807:=by omega
 have sm2:R.length+2≤9223372036854775807:=by omega
 have hl0:(0:Int)≤L:=by omega
 have hl1:(L:Int)≤1000000000:=by omega
 have q3:¬op<11:=by omega
 clear hhd hch hls hL hlen hF hll hR hR2 hb hd
 go_enter Tryz.func87,Tryz.ntmps87
 go_wp2_with fail
 refine (HHD.out _ HU1.out).mono ?_
 rintro e w2 ⟨rfl,hu2⟩
 have HU2:=Lib.hid (HU1.out.trans_ext hu2)
 have HB2:=Lib.hid (hu2.at HB1.out (by simp))
 have hc1:ByteArray.mk R.toArray++ByteArray.mk J.toArray=⟨(R++J).toArray⟩:=by rw [ByteArray.mk_append_mk]
 have s2:(ByteArray.mk (R++J).toArray).size=R.length+J.length:=by show (R++J).toArray.size=_;simp
 have hc2:ByteArray.mk (R++J).toArray++ByteArray.mk #[10]=⟨(R++J++[10]).toArray⟩:=by
  rw [show ByteArray.mk #[10]=ByteArray.mk [10].toArray from rfl,ByteArray.mk_append_mk]
 clear hu2 y0 y1 y2 y3 y4 y5
 go_wp2_with fail
 go_loopw [5,6] (fun s i wr=>∃j:Nat,j≤L∧i=.int .i64 j∧s=.string ⟨(R++J++[10]++kHj (d+1) (l.take j)).toArray⟩∧Hid (Upto [] w2 wr)) (fun _ i _=>L-(intOf i).toNat)
 case atStart=>exact⟨0,by omega,rfl,by simp [kHj],Lib.hid (Upto.refl _ _)⟩
 case round =>
  obtain⟨j,hj,rfl,rfl,HW⟩:=hrel
  clear hc1 hc2 s2
  have hj0:(0:Int)≤j:=by omega
  have hb:=HW.out.at HB2.out (by simp)
  obtain⟨z0,z1,z2,z3,z4,z5⟩:=kAx hb
  clear hb
  have hpl:(R++J++[10]++kHj (d+1) (l.take j)).length≤100000000000000:=by
   have h1:=kTz (d+1) l j
   have h2:=HLEN.out
   simp only [List.length_append,List.length_cons,List.length_nil]
   omega
  have HPP:Hid (R++J++[10]++kHj (d+1) (l.take j)=R++J++[10]++kHj (d+1) (l.take j)):=Lib.hid rfl
  rcases Nat.lt_or_ge j L with hlt | hge
  ·have hltI:(j:Int)<L:=by omega
   obtain⟨x,hx⟩:∃x,l[j]?=some x:=⟨_,List.getElem?_eq_getElem (by rw [HL.out];exact hlt)⟩
   obtain⟨g,o,xo,xn1,xn2,xn3,xs,xm,xq,xl1,xl2,xl3,rfl,c0,c1,c2',c3,c4,c5,hn⟩:=HLS.out j x hx
   replace c0:=((HU2.out.trans_ext HW.out).cell (World.block_lt_of_cell? w _ c0) (by simp)).trans c0
   replace c1:=((HU2.out.trans_ext HW.out).cell (World.block_lt_of_cell? w _ c1) (by simp)).trans c1
   replace c2':=((HU2.out.trans_ext HW.out).cell (World.block_lt_of_cell? w _ c2') (by simp)).trans c2'
   replace c3:=((HU2.out.trans_ext HW.out).cell (World.block_lt_of_cell? w _ c3) (by simp)).trans c3
   replace c4:=((HU2.out.trans_ext HW.out).cell (World.block_lt_of_cell? w _ c4) (by simp)).trans c4
   replace c5:=((HU2.out.trans_ext HW.out).cell (World.block_lt_of_cell? w _ c5) (by simp)).trans c5
   have HXM:=Lib.hid (List.mem_of_getElem? hx)
   have HX:=Lib.hid hn
   have HT:Hid (l.take (j+1)=l.take j++[x]):=Lib.hid (by
    obtain⟨hi,h2⟩:=List.getElem?_eq_some_iff.1 hx
    rw [List.take_succ_eq_append_getElem hi,h2])
   have hxl:(kRj (d+1) x).length≤100000000000000:=by
    have h1:=kTz (d+1) l (j+1)
    rw [HT.out,kQq,List.length_append] at h1
    have h2:=HLEN.out
    omega
   have HNX:Hid (R++J++[10]++kHj (d+1) (l.take (j+1))=R++J++[10]++kHj (d+1) (l.take j)++kRj (d+1) x):=Lib.hid (by rw [HT.out,kQq];simp)
   obtain⟨Q,hQ⟩:∃Q,R++J++[10]++kHj (d+1) (l.take j)=Q:=⟨_,rfl⟩
   rw [hQ] at hpl HNX ⊢
   have HCX:=Lib.hid (fun u (hu:Upto [] w u)=>HC.out x HXM.out _ HX.out u hu)
   generalize kRj (d+1) x=X at *
   have q0:(ByteArray.mk Q.toArray).size=Q.length:=rfl
   have q1:(ByteArray.mk X.toArray).size=X.length:=rfl
   have qm:Q.length+X.length≤9223372036854775807:=by omega
   have hc3:ByteArray.mk R.toArray++ByteArray.mk #[32,32]=⟨(R++[32,32]).toArray⟩:=by
    rw [show ByteArray.mk #[32,32]=ByteArray.mk [32,32].toArray from rfl,ByteArray.mk_append_mk]
   clear hx hn hQ HPP
   go_wp2_with fail
   refine (HCX.out _ (HU2.out.trans_ext HW.out)).mono ?_
   rintro e w3 ⟨rfl,hu3⟩
   have HW3:=Lib.hid (HW.out.trans_ext hu3)
   have hc4:ByteArray.mk Q.toArray++ByteArray.mk X.toArray=⟨(Q++X).toArray⟩:=by rw [ByteArray.mk_append_mk]
   clear hu3 hc3
   go_wp2_with fail
   go_roundw
   case rel=>exact⟨j+1,by omega,by go_num,by rw [HNX.out],HW3⟩
   case measure=>simp [intOf];omega
  ·have hgeI:¬(j:Int)<L:=by omega
   have HTA:Hid (l.take j=l):=Lib.hid (List.take_of_length_le (by rw [HL.out];exact hge))
   have HFE:Hid (R++J++[10]++kHj (d+1) (l.take j)=FIN):=Lib.hid (by rw [HTA.out,←HFN.out];simp)
   rw [HFE.out]
   go_wp2_with fail
   go_ret
   exact⟨rfl,HU2.out.trans_ext HW.out⟩
theorem rlines_word (op so nn mm:Int) (b1:Option Addr) (b2 b3:Nat) (a2:Option Addr) (c2:Nat) (l:List Nd) (L:Nat) (hL:l.length=L) (P:Nat→Prop) (d:Nat) (hd:d≤1000000000) (J:List UInt8) (w:World) (hls:LsAt w P a2 l) (hll:L≤1000000000) (h11:¬op<11) (h15:¬15<op)
  (hhd:∀u,Upto [] w u→Calls Tryz.prog 114 #[.int .i64 op] u fun e w'=>e=.returned (.string ⟨J.toArray⟩)∧Upto [] u w')
  (hch:∀x∈l,∀v,NdV w P x v→∀u,Upto [] w u→Calls Tryz.prog 87 #[v,.string ⟨(List.replicate (2*(d+1)) (32:UInt8)).toArray⟩] u fun e w'=>e=.returned (.string ⟨(kRj (d+1) x).toArray⟩)∧Upto [] u w')
  (hlen:(List.replicate (2*d) (32:UInt8)++(J++10::kHj (d+1) l)).length≤100000000000000) :
  Calls Tryz.prog 87 #[.agg #[.int .i64 op,.slice b1 b2 b3,.int .i64 so,.int .i64 nn,.int .i64 mm,.slice a2 L c2],.string ⟨(List.replicate (2*d) (32:UInt8)).toArray⟩] w fun e w'=>e=.returned (.string ⟨(List.replicate (2*d) (32:UInt8)++(J++10::kHj (d+1) l)).toArray⟩)∧Upto [] w w':=by
 have HU1:Hid (Upto [] w (w.alloc (.cells #[.int .i64 op,.slice b1 b2 b3,.int .i64 so,.int .i64 nn,.int .i64 mm,.slice a2 L c2] 25))):=Lib.hid ((Upto.refl [] w).alloc _)
 have hb:=kAq w (.cells #[.int .i64 op,.slice b1 b2 b3,.int .i64 so,.int .i64 nn,.int .i64 mm,.slice a2 L c2] 25)
 have HB1:=Lib.hid hb
 obtain⟨y0,y1,y2,y3,y4,y5⟩:=kAx hb
 have HHD:=Lib.hid hhd
 have HC:=Lib.hid hch
 have HLS:=Lib.hid hls
 have HL:=Lib.hid hL
 obtain⟨R,hR⟩:∃R,List.replicate (2*d) (32:UInt8)=R:=⟨_,rfl⟩
 have hRl:R.length=2*d:=by rw [←hR];simp
 have hR2:List.replicate (2*(d+1)) (32:UInt8)=R++[32,32]:=by
  rw [←hR,show 2*(d+1)=2*d+1+1 by omega,List.replicate_succ',List.replicate_succ']
  simp
 rw [hR2] at HC
 rw [hR] at hlen ⊢
 simp only [List.length_append,List.length_cons] at hlen
 obtain⟨FIN,hF⟩:∃F,R++(J++10::kHj (d+1) l)=F:=⟨_,rfl⟩
 rw [hF]
 have HFN:=Lib.hid hF
 have HLEN:=Lib.hid hlen
 have s0:(ByteArray.mk R.toArray).size=R.length:=rfl
 have s1:(ByteArray.mk J.toArray).size=J.length:=rfl
 have sm0:R.length+J.length≤9223372036854775807:=by omega
 have sm1:R.length+J.length+1≤9223372036854775807:=by omega
 have sm2:R.length+2≤9223372036854775807:=by omega
 have hl0:(0:Int)≤L:=by omega
 have hl1:(L:Int)≤1000000000:=by omega
 have q3:¬op<11:=h11
 clear hhd hch hls hL hlen hF hll hR hR2 hb hd
 go_enter Tryz.func87,Tryz.ntmps87
 go_wp2_with fail
 refine (HHD.out _ HU1.out).mono ?_
 rintro e w2 ⟨rfl,hu2⟩
 have HU2:=Lib.hid (HU1.out.trans_ext hu2)
 have HB2:=Lib.hid (hu2.at HB1.out (by simp))
 have hc1:ByteArray.mk R.toArray++ByteArray.mk J.toArray=⟨(R++J).toArray⟩:=by rw [ByteArray.mk_append_mk]
 have s2:(ByteArray.mk (R++J).toArray).size=R.length+J.length:=by show (R++J).toArray.size=_;simp
 have hc2:ByteArray.mk (R++J).toArray++ByteArray.mk #[10]=⟨(R++J++[10]).toArray⟩:=by
  rw [show ByteArray.mk #[10]=ByteArray.mk [10].toArray from rfl,ByteArray.mk_append_mk]
 clear hu2 y0 y1 y2 y3 y4 y5
 go_wp2_with fail
 go_loopw [5,6] (fun s i wr=>∃j:Nat,j≤L∧i=.int .i64 j∧s=.string ⟨(R++J++[10]++kHj (d+1) (l.take j)).toArray⟩∧Hid (Upto [] w2 wr)) (fun _ i _=>L-(intOf i).toNat)
 case atStart=>exact⟨0,by omega,rfl,by simp [kHj],Lib.hid (Upto.refl _ _)⟩
 case round =>
  obtain⟨j,hj,rfl,rfl,HW⟩:=hrel
  clear hc1 hc2 s2
  have hj0:(0:Int)≤j:=by omega
  have hb:=HW.out.at HB2.out (by simp)
  obtain⟨z0,z1,z2,z3,z4,z5⟩:=kAx hb
  clear hb
  have hpl:(R++J++[10]++kHj (d+1) (l.take j)).length≤100000000000000:=by
   have h1:=kTz (d+1) l j
   have h2:=HLEN.out
   simp only [List.length_append,List.length_cons,List.length_nil]
   omega
  have HPP:Hid (R++J++[10]++kHj (d+1) (l.take j)=R++J++[10]++kHj (d+1) (l.take j)):=Lib.hid rfl
  rcases Nat.lt_or_ge j L with hlt | hge
  ·have hltI:(j:Int)<L:=by omega
   obtain⟨x,hx⟩:∃x,l[j]?=some x:=⟨_,List.getElem?_eq_getElem (by rw [HL.out];exact hlt)⟩
   obtain⟨g,o,xo,xn1,xn2,xn3,xs,xm,xq,xl1,xl2,xl3,rfl,c0,c1,c2',c3,c4,c5,hn⟩:=HLS.out j x hx
   replace c0:=((HU2.out.trans_ext HW.out).cell (World.block_lt_of_cell? w _ c0) (by simp)).trans c0
   replace c1:=((HU2.out.trans_ext HW.out).cell (World.block_lt_of_cell? w _ c1) (by simp)).trans c1
   replace c2':=((HU2.out.trans_ext HW.out).cell (World.block_lt_of_cell? w _ c2') (by simp)).trans c2'
   replace c3:=((HU2.out.trans_ext HW.out).cell (World.block_lt_of_cell? w _ c3) (by simp)).trans c3
   replace c4:=((HU2.out.trans_ext HW.out).cell (World.block_lt_of_cell? w _ c4) (by simp)).trans c4
   replace c5:=((HU2.out.trans_ext HW.out).cell (World.block_lt_of_cell? w _ c5) (by simp)).trans c5
   have HXM:=Lib.hid (List.mem_of_getElem? hx)
   have HX:=Lib.hid hn
   have HT:Hid (l.take (j+1)=l.take j++[x]):=Lib.hid (by
    obtain⟨hi,h2⟩:=List.getElem?_eq_some_iff.1 hx
    rw [List.take_succ_eq_append_getElem hi,h2])
   have hxl:(kRj (d+1) x).length≤100000000000000:=by
    have h1:=kTz (d+1) l (j+1)
    rw [HT.out,kQq,List.length_append] at h1
    have h2:=HLEN.out
    omega
   have HNX:Hid (R++J++[10]++kHj (d+1) (l.take (j+1))=R++J++[10]++kHj (d+1) (l.take j)++kRj (d+1) x):=Lib.hid (by rw [HT.out,kQq];simp)
   obtain⟨Q,hQ⟩:∃Q,R++J++[10]++kHj (d+1) (l.take j)=Q:=⟨_,rfl⟩
   rw [hQ] at hpl HNX ⊢
   have HCX:=Lib.hid (fun u (hu:Upto [] w u)=>HC.out x HXM.out _ HX.out u hu)
   generalize kRj (d+1) x=X at *
   have q0:(ByteArray.mk Q.toArray).size=Q.length:=rfl
   have q1:(ByteArray.mk X.toArray).size=X.length:=rfl
   have qm:Q.length+X.length≤9223372036854775807:=by omega
   have hc3:ByteArray.mk R.toArray++ByteArray.mk #[32,32]=⟨(R++[32,32]).toArray⟩:=by
    rw [show ByteArray.mk #[32,32]=ByteArray.mk [32,32].toArray from rfl,ByteArray.mk_append_mk]
   clear hx hn hQ HPP
   go_wp2_with fail
   refine (HCX.out _ (HU2.out.trans_ext HW.out)).mono ?_
   rintro e w3 ⟨rfl,hu3⟩
   have HW3:=Lib.hid (HW.out.trans_ext hu3)
   have hc4:ByteArray.mk Q.toArray++ByteArray.mk X.toArray=⟨(Q++X).toArray⟩:=by rw [ByteArray.mk_append_mk]
   clear hu3 hc3
   go_wp2_with fail
   go_roundw
   case rel=>exact⟨j+1,by omega,by go_num,by rw [HNX.out],HW3⟩
   case measure=>simp [intOf];omega
  ·have hgeI:¬(j:Int)<L:=by omega
   have HTA:Hid (l.take j=l):=Lib.hid (List.take_of_length_le (by rw [HL.out];exact hge))
   have HFE:Hid (R++J++[10]++kHj (d+1) (l.take j)=FIN):=Lib.hid (by rw [HTA.out,←HFN.out];simp)
   rw [HFE.out]
   go_wp2_with fail
   go_ret
   exact⟨rfl,HU2.out.trans_ext HW.out⟩
theorem ref_word {k:Nat} (h11:11≤k) (h15:k≤15):refW.getD k []=if (k:Int)=11 then [110,111,116] else conW k:=by
 by_cases e11:k=11
 ·subst e11;rfl
 ·rw [if_neg (by omega),refW_word (by omega) (by omega),conW_word ⟨by omega,by omega⟩]
theorem rlines_calls:∀(k:Nat) (nd:Nd),kCz nd≤k→k≤10000000→okF nd→∀(d:Nat),d+k≤1000000000→∀(P:Nat→Prop) (v:Value) (w:World),NdV w P nd v→(kRj d nd).length≤100000000000000 →
  Calls Tryz.prog 87 #[v,.string ⟨(List.replicate (2*d) (32:UInt8)).toArray⟩] w fun e w'=>e=.returned (.string ⟨(kRj d nd).toArray⟩)∧Upto [] w w'
 | 0,nd,hk,_,_,_,_,_,_,_,_,_=>by have:=kJx nd;omega
 | k+1,.mk op names so n m l,hk,hk2,hok,d,hd,P,v,w,h,hlen=>by
  obtain⟨a1,c1,a2,c2,rfl,hs,hls⟩:=h.open
  have hop:=ok_op hok
  have hok':=hok
  unfold okF at hok'
  obtain⟨hnm,hc,hss⟩:=hok'
  have hsz:kBk l≤k:=by unfold kCz at hk;omega
  have hll:l.length≤2:=by
   rcases hc with⟨-,-,h,-⟩ | ⟨-,-,-,h,-⟩ | ⟨-,-,h,-⟩ | ⟨-,-,h,-⟩ | ⟨-,-,h,-⟩ | ⟨-,-,-,h,-⟩ | ⟨-,-,h,-⟩ | ⟨-,-,-,h,-⟩ | ⟨-,-,-,h,-⟩
   ·rw [h];simp
   ·rw [h];simp
   ·rw [h];simp
   ·rw [h];simp
   ·rw [h];simp
   ·rw [h];simp
   ·omega
   ·omega
   ·omega
  rw [kRj] at hlen ⊢
  have hts:∀x∈l,(kRj (d+1) x).length≤(kHj (d+1) l).length:=by
   intro x hx
   obtain⟨i,hi,rfl⟩:=List.mem_iff_getElem.1 hx
   have h1:=kTz (d+1) l (i+1)
   rw [List.take_succ_eq_append_getElem hi,kQq,List.length_append] at h1
   omega
  have hch:∀x∈l,∀v,NdV w P x v→∀u,Upto [] w u→Calls Tryz.prog 87 #[v,.string ⟨(List.replicate (2*(d+1)) (32:UInt8)).toArray⟩] u fun e w'=>e=.returned (.string ⟨(kRj (d+1) x).toArray⟩)∧Upto [] u w':=by
   intro x hx v hv u hu
   have h1:=oks_mem hx
   have h2:=hts x hx
   exact rlines_calls k x (by omega) (by omega) (h1.2 hss) (d+1) (by omega) P v u (hv.ext hu) (by simp only [List.length_append,List.length_cons] at hlen;omega)
  unfold headT at hlen ⊢
  by_cases h11:op<11
  ·rw [if_pos h11] at hlen ⊢
   exact rlines_atom op so n m a1 _ c1 a2 c2 l l.length rfl P d (by omega) _ w hls (by omega) h11 (fun u hu=>ratom_calls op so n m names l _ hok h11 h u hu) hch hlen
  rw [if_neg h11] at hlen ⊢
  by_cases h15:15<op
  ·rw [if_pos h15] at hlen ⊢
   have hn1:names.length=1:=by omega
   have hso:0≤so∧so<4:=by omega
   obtain⟨x,rfl⟩:=one_of hn1
   obtain⟨kk,rfl⟩:=kUj hop.1
   have hnl:=kUx (hnm x (by simp))
   have e:jn [kyT (quW (kk:Int)),kyT (kDj.getD so.toNat []),idT (([x]:List (List UInt8)).getD 0 []),puT 58]=quW (kk:Int)++[32]++kOj so++[32]++x++[32,58]:=by
    rw [sort_wd hso.1 hso.2,jn_cons]
    simp [kyT,idT,puT]
   rw [e] at hlen ⊢
   refine rlines_qu kk so n m a1 _ c1 a2 c2 l l.length rfl P d (by omega) _ w hls (by omega) h15 (fun u hu=>?_) hch hlen
   obtain⟨b1,d1,b2,d2,he,hs',-⟩:=(h.ext hu).open
   simp only [Value.agg.injEq,Array.mk.injEq,List.cons.injEq,Value.slice.injEq,true_and,and_true] at he
   obtain⟨⟨rfl,rfl⟩,-⟩:=he
   obtain⟨a,c,he2,hg⟩:=hs'.get
   simp only [Value.slice.injEq] at he2
   obtain⟨rfl,-,rfl⟩:=he2
   obtain⟨gn,on,rfl,dn⟩:=hg 0 (sV x) rfl
   rw [Nat.add_zero] at dn
   exact binds_calls kk (by omega) (by omega) so n m gn on _ _ _ _ _ x (by omega) u dn (by simp)
  ·rw [if_neg h15] at hlen ⊢
   obtain⟨kk,rfl⟩:=kUj hop.1
   rw [←ref_word (by omega) (by omega),jn_one] at hlen ⊢
   refine rlines_word kk so n m a1 _ c1 a2 c2 l l.length rfl P d (by omega) _ w hls (by omega) h11 h15 (fun u hu=>word_calls kk (by omega) u) hch hlen
def fline (f:List (List UInt8×Int)):List UInt8:=if f=[] then [] else [102,105,110,100]++frS f++[32,58]++[10]
def treeQ (q:Qn):List UInt8×Nat:=if kIj kBj q=0 then (fline q.free++kRj 0 q.body,0) else ([],kIj kBj q)
theorem jn_free {f:List (List UInt8×Int)} (hf:f≠[]):jn ((freeB f).map Prod.snd)=[102,105,110,100]++frS f++[32,58]:=by
 cases f with
 | nil=>exact absurd rfl hf
 | cons v r =>
  simp only [freeB,List.map_cons,jn_cons,List.map_append,List.flatMap_append,List.flatMap_map,frS]
  simp [kyT,puT]
theorem head_len {op so n m:Int} {names:List (List UInt8)} {l:List Nd} (hok:okF (.mk op names so n m l)):(jn (headT op names so n m)).length≤1000:=by
 have h1:=own_le _ _ (Nat.le_refl _) hok
 have hop:=ok_op hok
 have hok':=hok
 unfold okF at hok'
 obtain⟨hnm,hc,hs⟩:=hok'
 unfold headT
 split
 ·rename_i h11
  have h2:=jn_len hok true
  rw [prT_atom true h11] at h2
  have h3:l=[]:=by
   rcases hc with⟨-,-,h,-⟩ | ⟨-,-,-,h,-⟩ | ⟨-,-,h,-⟩ | ⟨-,-,h,-⟩ | ⟨-,-,h,-⟩ | ⟨-,-,-,h,-⟩ | ⟨h,-⟩ | ⟨h,-⟩ | ⟨h,-⟩
   ·exact h
   ·exact h
   ·exact h
   ·exact h
   ·exact h
   ·exact h
   ·omega
   ·omega
   ·omega
  subst h3
  unfold kCz at h2
  simp only [kBk] at h2
  omega
 ·split
  ·have hn1:names.length=1:=by omega
   obtain⟨x,rfl⟩:=one_of hn1
   have hx:=kUx (hnm x (by simp))
   have hs4:=sortW_len so.toNat
   have hq:(quW op).length≤7:=by
    unfold quW
    split<;>decide
   simp only [jn_cons,List.flatMap_cons,List.flatMap_nil,List.length_append,List.length_cons,List.length_nil,kyT,idT,puT,List.getD_cons_zero]
   omega
  ·rw [jn_one]
   have hw:(conW op).length≤10:=by
    unfold conW opWd
    split<;>decide
   show (if op=11 then [110,111,116] else conW op).length≤1000
   split
   ·decide
   ·omega
mutual
theorem tree_len:∀(nd:Nd) (d D:Nat),okF nd→d+kNw nd≤D→(kRj d nd).length≤(2*D+1001)*kCz nd
 | .mk op names so n m l,d,D,hok,hd=>by
  have h1:=head_len hok
  have hok':=hok
  unfold okF at hok'
  unfold kNw at hd
  have h2:=trees_len l (d+1) D hok'.2.2 (by omega)
  rw [kRj]
  unfold kCz
  simp only [List.length_append,List.length_cons,List.length_replicate]
  have h3:(2*D+1001)*(1+kBk l)=(2*D+1001)+(2*D+1001)*kBk l:=by rw [Nat.mul_add,Nat.mul_one]
  have h4:2*d≤2*D:=by omega
  first
   | omega
   | (rw [Nat.mul_add,Nat.mul_one];omega)
   | (rw [Nat.add_comm (kBk l) 1];rw [h3];omega)
theorem trees_len:∀(l:List Nd) (d D:Nat),oksF l→d+kLz l≤D+0→(kHj d l).length≤(2*D+1001)*kBk l
 | [],_,_,_,_=>by simp [kHj]
 | x::r,d,D,hok,hd=>by
  unfold oksF at hok
  simp only [kLz] at hd
  have h1:=tree_len x d D hok.1 (by omega)
  have h2:=trees_len r d D hok.2 (by omega)
  simp only [kHj,kBk,List.length_append]
  rw [Nat.mul_add]
  omega
end
theorem up_below {w0 w w':World} {B:Nat} (h:Upto [] w0 w) (hB:w0.heap.size≤B) (hb:Below B w w'):Upto [] w0 w' :=
 ⟨hb.os.trans h.os,hb.tape.trans h.tape,hb.output.trans h.output,Nat.le_trans h.size hb.size,fun k hk hs=>(hb.block k (by omega)).trans (h.block k hk hs)⟩
theorem BdI.again {w2 w:World} {b:Nat} (hb:w2.heap.size≤b) (h:w.heap[b]?=some (.cells #[.pointer none,.slice none 0 0] 117 (0,0))) (hu:Upto [] w2 w):BdI w2 w b [] :=
 ⟨Or.inl ⟨hb,.slice none 0 0,h,⟨by simp [Lib.byteCells],Or.inl ⟨rfl,rfl⟩⟩,by simp [Value.ownBlock]⟩,hu⟩
theorem tree_calls (q:Qn) (v:Value) (w:World) (P:Nat→Prop) (h:QnV w P q v) (hk:kCz q.body≤10000000) (hin:inN 10000000 q.body) (hfn:∀y∈q.free,y.1.length≤10000000) (hE:Env w∧SEnv w∧FEnv w∧PEnv w):Calls Tryz.prog 50 #[v] w fun e w'=>e=.returned (pairV (treeQ q))∧Upto [] w w':=by
 have HCQ:=Lib.hid (fun u (hu:Upto [] w u)=>checkq_calls q v u P (QnV.keep (Keep.upto hu (by simp)) h) hk hin hfn ⟨hE.1.ext hu,hE.2.1.upto hu (by simp),hE.2.2.1.ext hu⟩)
 obtain⟨f1,f3,o1,a1,a2,a3,s1,n1,m1,l1,l2,l3,rfl,hv,hn⟩:=h.open
 obtain⟨L,hL⟩:∃L,q.free.length=L:=⟨_,rfl⟩
 rw [hL] at hv HCQ ⊢
 have hu1:Upto [] w (w.alloc (.cells #[.slice f1 L f3,.int .i64 o1,.slice a1 a2 a3,.int .i64 s1,.int .i64 n1,.int .i64 m1,.slice l1 l2 l3] 48)):=(Upto.refl [] w).alloc _
 have HU1:=Lib.hid hu1
 have hb:=kAq w (.cells #[.slice f1 L f3,.int .i64 o1,.slice a1 a2 a3,.int .i64 s1,.int .i64 n1,.int .i64 m1,.slice l1 l2 l3] 48)
 have HB1:=Lib.hid hb
 obtain⟨y0,y1,y2,y3,y4,y5,y6⟩:=kBw hb
 by_cases hR:kIj kBj q=0
 case neg =>
  obtain⟨R,hR2⟩:∃R,kIj kBj q=R:=⟨_,rfl⟩
  have HPF:Hid (treeQ q=([],R)):=Lib.hid (by unfold treeQ;rw [if_neg hR,hR2])
  rw [hR2] at HCQ hR
  have r1:((R:Int)==0)=false:=by rw [beq_eq_false_iff_ne];omega
  have r2:((R:Int) != 0)=true:=by rw [bne,r1];rfl
  clear hR hR2 hE hin hfn hk hv hn hu1 hb h
  go_enter Tryz.func50,Tryz.ntmps50
  go_wp2_with fail
  refine (HCQ.out _ HU1.out).mono ?_
  rintro e w2 ⟨rfl,hu2⟩
  have HU2:=Lib.hid (HU1.out.trans_ext hu2)
  clear hu2
  go_wp2_with fail
  go_ret2
  exact⟨by rw [HPF.out];rfl,HU2.out⟩
 case pos =>
  obtain⟨hov,hob,hg⟩:=right_ok (fun x=>kXz) hR
  have hlim:=great_lim hg
  rw [hR] at HCQ
  have HEU:=Lib.hid (fun u (hu:Upto [] w u)=>(⟨hE.2.2.2.ext hu,hE.2.1.upto hu (by simp)⟩:PEnv u∧SEnv u))
  have HV:=Lib.hid hv
  have HN:=Lib.hid hn
  have HOV:=Lib.hid hov
  have HOB:=Lib.hid hob
  have HL:=Lib.hid hL
  have HSZ:Hid (0+kCz q.body≤1000000000):=Lib.hid (by omega)
  have HTL:Hid ((kRj 0 q.body).length≤1000000000):=Lib.hid (by
   have h1:=tree_len q.body 0 256 hob (by omega)
   have h2:(2*256+1001)*kCz q.body≤(2*256+1001)*4096:=Nat.mul_le_mul_left _ hlim.1
   omega)
  by_cases hq:q.free=[]
  ·obtain rfl:L=0:=by rw [←hL,hq];rfl
   have HPF:Hid (treeQ q=(kRj 0 q.body,0)):=Lib.hid (by unfold treeQ fline;rw [if_pos hR,if_pos hq];rfl)
   obtain⟨FL,hFLe⟩:∃FL:List UInt8,FL=[]:=⟨_,rfl⟩
   have HFL:Hid (FL.length≤1000):=Lib.hid (by rw [hFLe];simp)
   have HFT:Hid (FL++kRj 0 q.body=kRj 0 q.body):=Lib.hid (by rw [hFLe];rfl)
   have HFE:=Lib.hid hFLe
   clear hR hE hin hfn hk hv hn hu1 hb h hov hob hg hL hlim hq hFLe
   go_enter Tryz.func50,Tryz.ntmps50
   go_wp2_with fail
   refine (HCQ.out _ HU1.out).mono ?_
   rintro e w2 ⟨rfl,hu2⟩
   have HU2:=Lib.hid (HU1.out.trans_ext hu2)
   have ua:Upto [] w2 (w2.alloc (.cells #[.pointer none,.slice none 0 0] 117)):=(Upto.refl [] w2).alloc _
   have HB3:=Lib.hid (ua.at (hu2.at HB1.out (by simp)) (by simp))
   have HBD:Hid (BdI w2 (w2.alloc (.cells #[.pointer none,.slice none 0 0] 117)) w2.heap.size FL):=Lib.hid (by rw [HFE.out];exact BdI.new w2)
   have hb3:=HB3.out
   clear y0 y1 y2 y3 y4 y5 y6
   obtain⟨z0,z1,z2,z3,z4,z5,z6⟩:=kBw hb3
   clear hu2 hb3 ua
   go_wp2_with fail
   obtain⟨B,hB⟩:∃B,w2.heap.size=B:=⟨_,rfl⟩
   have HBE:=Lib.hid hB
   rw [hB] at HBD ⊢
   clear hB
   refine (lines_calls _ q.body (Nat.le_refl _) HOB.out 0 HSZ.out w2 B P _ (fun u hu=>HEU.out u (HU2.out.trans_ext hu)) (patom_calls (fun u hu=>(HEU.out u (HU2.out.trans_ext hu)).1)) (HN.out.ext HU2.out) _ FL HBD.out (by have h1:=HTL.out;have h2:=HFL.out;omega)).mono ?_
   rintro e w8 ⟨rfl,hb8,-⟩
   have HB8:=Lib.hid hb8
   clear hb8
   go_wp2_with fail
   refine (Tryz.Builder_String_any w2.heap.size B (FL++kRj 0 q.body) w8 HB8.out.1 HB8.out.2.size).mono ?_
   rintro e w9 ⟨rfl,hbl⟩
   have HU9:=Lib.hid (up_below (HU2.out.trans_ext HB8.out.2) HU2.out.size hbl)
   rw [HFT.out]
   clear hbl
   go_wp2_with fail
   go_ret2
   exact⟨by rw [HPF.out];rfl,HU9.out⟩
  ·have hL0:(0:Int)<L:=by
    have:L≠0:=fun e=>hq (List.eq_nil_of_length_eq_zero (by rw [hL];exact e))
    omega
   obtain⟨FA,hFA⟩:∃FA,jn ((freeB q.free).map Prod.snd)=FA:=⟨_,rfl⟩
   have hjf:=jn_free hq
   rw [hFA] at hjf
   have hlf:=frS_len q.free (fun v hv'=>kUx (hov.2.1 v hv').1)
   have hL8:=hov.1
   have HFAL:Hid (FA.length≤900):=Lib.hid (by rw [hjf];simp only [List.length_append,List.length_cons,List.length_nil];omega)
   have HFA:=Lib.hid hFA
   obtain⟨FL,hFLe⟩:∃FL:List UInt8,FL=FA++[10]:=⟨_,rfl⟩
   have HFL:Hid (FL.length≤1000):=Lib.hid (by rw [hFLe,List.length_append];have:=HFAL.out;simp only [List.length_cons,List.length_nil];omega)
   obtain⟨TX,hTX⟩:∃TX,FL++kRj 0 q.body=TX:=⟨_,rfl⟩
   have HPF:Hid (treeQ q=(TX,0)):=Lib.hid (by unfold treeQ fline;rw [if_pos hR,if_neg hq,←hTX,hFLe,hjf])
   have HFT:=Lib.hid hTX
   have HFE:=Lib.hid hFLe
   have HLF:Hid ((txs ((freeB q.free).map Prod.snd)).length≤30):=Lib.hid (by have:=free_len q.free;omega)
   clear hR hE hin hfn hk hv hn hu1 hb h hov hob hg hL hlim hq hFLe hFA hjf hlf hL8 hTX
   go_enter Tryz.func50,Tryz.ntmps50
   go_wp2_with fail
   refine (HCQ.out _ HU1.out).mono ?_
   rintro e w2 ⟨rfl,hu2⟩
   have HU2:=Lib.hid (HU1.out.trans_ext hu2)
   have ua:Upto [] w2 (w2.alloc (.cells #[.pointer none,.slice none 0 0] 117)):=(Upto.refl [] w2).alloc _
   have hb3:=ua.at (hu2.at HB1.out (by simp)) (by simp)
   have HBN:Hid (w.heap.size≠w2.heap.size):=Lib.hid (by have h9:=kAk (hu2.at HB1.out (by simp));omega)
   have K3:=Lib.hid (Kp.new hb3)
   have KB:=Lib.hid (Kp.new (kAq w2 (.cells #[.pointer none,.slice none 0 0] 117)))
   have HW3:=Lib.hid (WrI.new (w2.alloc (.cells #[.pointer none,.slice none 0 0] 117)))
   have HUA:=Lib.hid ua
   have z1:(w2.alloc (.cells #[.pointer none,.slice none 0 0] 117)).heap.size=w2.heap.size+1:=by simp
   rw [z1] at K3 KB HW3
   have hb4:=K3.out.1
   clear y0 y1 y2 y3 y4 y5 y6
   obtain⟨zz0,zz1,zz2,zz3,zz4,zz5,zz6⟩:=kBw hb4
   have hb3b:=hb3
   obtain⟨x0,x1,x2,x3,x4,x5,x6⟩:=kBw hb3b
   clear hu2 hb3 hb4 ua hb3b
   go_wp2_with fail
   clear x0 x1 x2 x3 x4 x5 x6
   refine (find_calls (w2.alloc (.cells #[.pointer none,.slice none 0 0] 117)) _ (w2.heap.size+1) [] P q.free L HL.out f1 f3 o1 a1 a2 a3 s1 n1 m1 l1 l2 l3 HW3.out (HV.out.ext (HU2.out.trans_ext HUA.out)) HOV.out (fun u hu=>(HEU.out u ((HU2.out.trans_ext HUA.out).trans_ext hu)).2) (by simp)).mono ?_
   rintro e w4 ⟨rfl,hw4,hk4⟩
   rw [List.nil_append] at hw4
   have HW4:=Lib.hid hw4
   have K4:=Lib.hid (hk4.2 _ _ K3.out)
   have KB4:=Lib.hid (hk4.2 _ _ KB.out)
   obtain⟨wa,wn,wc,hst,hrow,-⟩:=hw4.st
   have c0:=kAz hst 0
   simp only [List.getElem?_toArray,List.getElem?_cons_zero] at c0
   have HRW:=Lib.hid hrow
   clear hw4 hk4 hst hrow zz0 zz1 zz2 zz3 zz4 zz5 zz6
   go_wp2_with fail
   refine (join_row HRW.out (by rw [jn_txs,HFA.out];have:=HFAL.out;omega) (by have:=HLF.out;omega)).mono ?_
   rw [jn_txs,HFA.out]
   rintro e w5 ⟨rfl,hu5⟩
   have HB5:=Lib.hid (hu5.at K4.out.1 (by simp))
   have HBD5:Hid (BdI w2 w5 w2.heap.size []):=Lib.hid (BdI.again (Nat.le_refl _) (hu5.at KB4.out.1 (by simp)) ((HUA.out.trans_ext HW4.out.up).trans_ext hu5))
   clear hu5 c0
   go_wp2_with fail
   refine (wstr_calls w2 w5 w2.heap.size [] FA HBD5.out (by have:=HFAL.out;simp only [List.length_nil];omega)).mono ?_
   rintro e w6 ⟨rfl,hb6,hk6⟩
   have HBD6:=Lib.hid hb6
   have HB6:=Lib.hid (hk6.2 _ _ _ _ (by decide) HBN.out HB5.out)
   clear hb6 hk6
   go_wp2_with fail
   refine (wbyte_calls w2 w6 w2.heap.size ([]++FA) 10 HBD6.out (by have:=HFAL.out;simp only [List.nil_append];omega)).mono ?_
   rintro e w7 ⟨rfl,hb7,hk7⟩
   have HBD:Hid (BdI w2 w7 w2.heap.size FL):=Lib.hid (by rw [HFE.out];simpa using hb7)
   have hb8:=hk7.2 _ _ _ _ (by decide) HBN.out HB6.out
   obtain⟨t0,t1,t2,t3,t4,t5,t6⟩:=kBw hb8
   clear hb7 hk7 hb8
   go_wp2_with fail
   obtain⟨B,hB⟩:∃B,w2.heap.size=B:=⟨_,rfl⟩
   have HBE:=Lib.hid hB
   rw [hB] at HBD ⊢
   clear hB
   refine (lines_calls _ q.body (Nat.le_refl _) HOB.out 0 HSZ.out w2 B P _ (fun u hu=>HEU.out u (HU2.out.trans_ext hu)) (patom_calls (fun u hu=>(HEU.out u (HU2.out.trans_ext hu)).1)) (HN.out.ext HU2.out) _ FL HBD.out (by have h1:=HTL.out;have h2:=HFL.out;omega)).mono ?_
   rintro e w8 ⟨rfl,hb8,-⟩
   have HB8:=Lib.hid hb8
   clear hb8
   go_wp2_with fail
   refine (Tryz.Builder_String_any w2.heap.size B (FL++kRj 0 q.body) w8 HB8.out.1 HB8.out.2.size).mono ?_
   rintro e w9 ⟨rfl,hbl⟩
   have HU9:=Lib.hid (up_below (HU2.out.trans_ext HB8.out.2) HU2.out.size hbl)
   rw [HFT.out]
   clear hbl
   go_wp2_with fail
   go_ret2
   exact⟨by rw [HPF.out];rfl,HU9.out⟩
theorem rlinesq_calls (q:Qn) (v:Value) (w:World) (P:Nat→Prop) (h:QnV w P q v) (hk:kCz q.body≤10000000) (hin:inN 10000000 q.body) (hfn:∀y∈q.free,y.1.length≤10000000):Calls Tryz.prog 51 #[v] w fun e w'=>e=.returned (pairV (treeQ q))∧Upto [] w w':=by
 have HCQ:=Lib.hid (fun u (hu:Upto [] w u)=>kTx q v u P (QnV.keep (Keep.upto hu (by simp)) h) hk hin hfn)
 obtain⟨f1,f3,o1,a1,a2,a3,s1,n1,m1,l1,l2,l3,rfl,hv,hn⟩:=h.open
 obtain⟨L,hL⟩:∃L,q.free.length=L:=⟨_,rfl⟩
 rw [hL] at hv HCQ ⊢
 have hu1:Upto [] w (w.alloc (.cells #[.slice f1 L f3,.int .i64 o1,.slice a1 a2 a3,.int .i64 s1,.int .i64 n1,.int .i64 m1,.slice l1 l2 l3] 45)):=(Upto.refl [] w).alloc _
 have HU1:=Lib.hid hu1
 have hb:=kAq w (.cells #[.slice f1 L f3,.int .i64 o1,.slice a1 a2 a3,.int .i64 s1,.int .i64 n1,.int .i64 m1,.slice l1 l2 l3] 45)
 have HB1:=Lib.hid hb
 obtain⟨y0,y1,y2,y3,y4,y5,y6⟩:=kBw hb
 by_cases hR:kIj kBj q=0
 case neg =>
  obtain⟨R,hR2⟩:∃R,kIj kBj q=R:=⟨_,rfl⟩
  have HPF:Hid (treeQ q=([],R)):=Lib.hid (by unfold treeQ;rw [if_neg hR,hR2])
  rw [hR2] at HCQ hR
  have r1:((R:Int)==0)=false:=by rw [beq_eq_false_iff_ne];omega
  have r2:((R:Int) != 0)=true:=by rw [bne,r1];rfl
  clear hR hR2 hin hfn hk hv hn hu1 hb h
  go_enter Tryz.func51,Tryz.ntmps51
  go_wp2_with fail
  refine (HCQ.out _ HU1.out).mono ?_
  rintro e w2 ⟨rfl,hu2⟩
  have HU2:=Lib.hid (HU1.out.trans_ext hu2)
  clear hu2
  go_wp2_with fail
  go_ret2
  exact⟨by rw [HPF.out];rfl,HU2.out⟩
 case pos =>
  obtain⟨hov,hob,hg⟩:=right_ok (fun x=>kXz) hR
  have hlim:=great_lim hg
  rw [hR] at HCQ
  have htl:(kRj 0 q.body).length≤1000000000:=by
   have h1:=tree_len q.body 0 256 hob (by omega)
   have h2:(2*256+1001)*kCz q.body≤(2*256+1001)*4096:=Nat.mul_le_mul_left _ hlim.1
   omega
  have HLN:=Lib.hid (fun u (hu:Upto [] w u)=>rlines_calls _ q.body (Nat.le_refl _) (by omega) hob 0 (by omega) P _ u (hn.ext hu) (by omega))
  have hrep:(List.replicate (2*0) (32:UInt8)).toArray=#[]:=rfl
  rw [hrep] at HLN
  by_cases hq:q.free=[]
  ·obtain rfl:L=0:=by rw [←hL,hq];rfl
   have HPF:Hid (treeQ q=(kRj 0 q.body,0)):=Lib.hid (by unfold treeQ fline;rw [if_pos hR,if_pos hq];rfl)
   generalize kRj 0 q.body=T at *
   have q1:(ByteArray.mk T.toArray).size=T.length:=rfl
   have q0:(ByteArray.mk #[]).size=0:=rfl
   have qm:0+T.length≤9223372036854775807:=by omega
   have qc:ByteArray.mk #[]++ByteArray.mk T.toArray=⟨T.toArray⟩:=by
    rw [show ByteArray.mk #[]=ByteArray.mk ([]:List UInt8).toArray from rfl,ByteArray.mk_append_mk]
    rfl
   clear hR hin hfn hk hv hn hu1 hb h hov hob hg hL hlim hq htl hrep
   go_enter Tryz.func51,Tryz.ntmps51
   go_wp2_with fail
   refine (HCQ.out _ HU1.out).mono ?_
   rintro e w2 ⟨rfl,hu2⟩
   have HU2:=Lib.hid (HU1.out.trans_ext hu2)
   have hb2:=hu2.at HB1.out (by simp)
   clear y0 y1 y2 y3 y4 y5 y6
   obtain⟨z0,z1,z2,z3,z4,z5,z6⟩:=kBw hb2
   clear hu2 hb2
   go_wp2_with fail
   refine (HLN.out _ HU2.out).mono ?_
   rintro e w3 ⟨rfl,hu3⟩
   have HU3:=Lib.hid (HU2.out.trans_ext hu3)
   clear hu3
   go_wp2_with fail
   go_ret2
   exact⟨by rw [HPF.out];unfold pairV;simp only;first | rfl | (rw [←qc];rfl),HU3.out⟩
  ·have hL0:(0:Int)<L:=by
    have:L≠0:=fun e=>hq (List.eq_nil_of_length_eq_zero (by rw [hL];exact e))
    omega
   have HF:=Lib.hid (fun u (hu:Upto [] w u)=>rfind_calls q.free _ u P (hv.ext hu) hov)
   have hlf:=frS_len q.free (fun v hv'=>kUx (hov.2.1 v hv').1)
   have hL8:=hov.1
   have hal:([102,105,110,100]++frS q.free++[32,58]).length≤900:=by simp only [List.length_append,List.length_cons,List.length_nil];omega
   obtain⟨A,hA⟩:∃A,[102,105,110,100]++frS q.free++[32,58]=A:=⟨_,rfl⟩
   have HPF:Hid (treeQ q=(A++[10]++kRj 0 q.body,0)):=Lib.hid (by unfold treeQ fline;rw [if_pos hR,if_neg hq,←hA])
   rw [hA] at HF hal
   generalize kRj 0 q.body=T at *
   have q0:(ByteArray.mk A.toArray).size=A.length:=rfl
   have q1:(ByteArray.mk T.toArray).size=T.length:=rfl
   have qm:A.length+1≤9223372036854775807:=by omega
   have qn:A.length+1+T.length≤9223372036854775807:=by omega
   have qc:ByteArray.mk A.toArray++ByteArray.mk #[10]=⟨(A++[10]).toArray⟩:=by
    rw [show ByteArray.mk #[10]=ByteArray.mk [10].toArray from rfl,ByteArray.mk_append_mk]
   have q2:(ByteArray.mk (A++[10]).toArray).size=A.length+1:=by show (A++[10]).toArray.size=_;simp
   have qd:ByteArray.mk (A++[10]).toArray++ByteArray.mk T.toArray=⟨(A++[10]++T).toArray⟩:=by rw [ByteArray.mk_append_mk]
   have QC:=Lib.hid qc
   have QD:=Lib.hid qd
   clear hR hin hfn hk hv hn hu1 hb h hov hob hg hL hlim hq htl hrep hlf hL8 hal hA qc qd
   go_enter Tryz.func51,Tryz.ntmps51
   go_wp2_with fail
   refine (HCQ.out _ HU1.out).mono ?_
   rintro e w2 ⟨rfl,hu2⟩
   have HU2:=Lib.hid (HU1.out.trans_ext hu2)
   have HB2:=Lib.hid (hu2.at HB1.out (by simp))
   have hb2:=HB2.out
   clear y0 y1 y2 y3 y4 y5 y6
   obtain⟨z0,z1,z2,z3,z4,z5,z6⟩:=kBw hb2
   clear hu2 hb2
   go_wp2_with fail
   refine (HF.out _ HU2.out).mono ?_
   rintro e w3 ⟨rfl,hu3⟩
   have HU3:=Lib.hid (HU2.out.trans_ext hu3)
   have hb3:=hu3.at HB2.out (by simp)
   clear z0 z1 z2 z3 z4 z5 z6
   obtain⟨t0,t1,t2,t3,t4,t5,t6⟩:=kBw hb3
   have qc:=QC.out
   clear hu3 hb3
   go_wp2_with fail
   refine (HLN.out _ HU3.out).mono ?_
   rintro e w4 ⟨rfl,hu4⟩
   have HU4:=Lib.hid (HU3.out.trans_ext hu4)
   have qd:=QD.out
   clear hu4 qc
   go_wp2_with fail
   go_ret2
   exact⟨by rw [HPF.out];unfold pairV;simp only;rw [show A++[10]++T=A++10::T by simp];rfl,HU4.out⟩
theorem printerTree_walk (q:Qn) (v:Value) (w:World) (hq:ArgQ w q v) (hE:Env w∧SEnv w∧FEnv w∧PEnv w):Calls Tryz.prog 15 #[v] w fun e w'=>e=.returned (.bool true)∧Upto [] w w':=by
 have hf:=hq.facts
 have HEE:=Lib.hid (fun u (hu:Upto [] w u)=>EnvP.ext hE hu)
 have HK:Hid (∀u,Upto [] w u→Calls Tryz.prog 42 #[] u fun e w'=>e=.returned (.bool true)∧Upto [] u w'):=Lib.hid (fun u hu=>kTw u (HEE.out u hu))
 have HAS:=Lib.hid (fun u (hu:Upto [] w u)=>kVw q v u AnyB (hf.ext hu).val hf.sz hf.big hf.fl hf.fn)
 have HRT:=Lib.hid (fun u (hu:Upto [] w u)=>kTx q v u AnyB (hf.ext hu).val hf.sz hf.ins hf.fn)
 have HOF:=Lib.hid (fun u (hu:Upto [] w u)=>ofq_calls q v u AnyB (hf.ext hu).val hf.sz hf.big hf.fl)
 have HRL:=Lib.hid (fun u (hu:Upto [] w u)=>rlinesq_calls q v u AnyB (hf.ext hu).val hf.sz hf.ins hf.fn)
 have HSZ:=Lib.hid (And.intro hf.sz (And.intro hf.ins hf.fn))
 obtain⟨f1,f3,o1,a1,a2,a3,s1,n1,m1,l1,l2,l3,rfl,-,-⟩:=hf.val.open
 obtain⟨L,hL⟩:∃L,q.free.length=L:=⟨_,rfl⟩
 rw [hL] at HAS HRT HOF HRL ⊢
 have HU1:Hid (Upto [] w (w.alloc (.cells #[.slice f1 L f3,.int .i64 o1,.slice a1 a2 a3,.int .i64 s1,.int .i64 n1,.int .i64 m1,.slice l1 l2 l3] 45))):=Lib.hid ((Upto.refl [] w).alloc _)
 have HB1:Hid ((w.alloc (.cells #[.slice f1 L f3,.int .i64 o1,.slice a1 a2 a3,.int .i64 s1,.int .i64 n1,.int .i64 m1,.slice l1 l2 l3] 45)).heap[w.heap.size]?=some (.cells #[.slice f1 L f3,.int .i64 o1,.slice a1 a2 a3,.int .i64 s1,.int .i64 n1,.int .i64 m1,.slice l1 l2 l3] 45 (0,0))):=Lib.hid (kAq w _)
 have c1:∀b:Bool,b=true∨b=false:=fun b=>by cases b<;>simp
 clear hq hf hE hL
 rcases c1 (kVx q) with aq | aq
 case inr =>
  rw [aq] at HAS
  clear aq
  have hp1:=HB1.out
  obtain⟨p0,p1,p2,p3,p4,p5,p6⟩:=kBw hp1
  clear hp1
  go_enter Tryz.func15,Tryz.ntmps15
  go_wp2_with fail
  refine (HAS.out _ HU1.out).mono ?_
  rintro e w2 ⟨rfl,hu2⟩
  have HU2:=Lib.hid (HU1.out.trans_ext hu2)
  have HB2:=Lib.hid (hu2.at HB1.out (by simp))
  clear p0 p1 p2 p3 p4 p5 p6
  clear hu2
  go_wp2_with fail
  refine (HK.out _ HU2.out).mono ?_
  rintro e wk ⟨rfl,huk⟩
  have HUK:=Lib.hid (HU2.out.trans_ext huk)
  clear huk
  go_wp2_with fail
  go_ret
  exact⟨rfl,HUK.out⟩
 rw [aq] at HAS
 clear aq
 have hp1:=HB1.out
 obtain⟨p0,p1,p2,p3,p4,p5,p6⟩:=kBw hp1
 clear hp1
 go_enter Tryz.func15,Tryz.ntmps15
 go_wp2_with fail
 refine (HAS.out _ HU1.out).mono ?_
 rintro e w2 ⟨rfl,hu2⟩
 have HU2:=Lib.hid (HU1.out.trans_ext hu2)
 have HB2:=Lib.hid (hu2.at HB1.out (by simp))
 clear p0 p1 p2 p3 p4 p5 p6
 have hp2:=HB2.out
 obtain⟨p0,p1,p2,p3,p4,p5,p6⟩:=kBw hp2
 clear hp2
 clear hu2
 go_wp2_with fail
 refine (HOF.out _ HU2.out).mono ?_
 rintro e w3 ⟨v3,rfl,hq3,hu3⟩
 have HU3:=Lib.hid (HU2.out.trans_ext hu3)
 have HB3:=Lib.hid (hu3.at HB2.out (by simp))
 have HQ3:=Lib.hid hq3
 obtain⟨z1,z3,zo,za1,za2,za3,zs,zn,zm,zl1,zl2,zl3,rfl,-,-⟩:=hq3.open
 clear hq3
 clear p0 p1 p2 p3 p4 p5 p6
 clear hu3
 go_wp2_with fail
 refine (tree_calls q _ w3 (New w2) HQ3.out HSZ.out.1 HSZ.out.2.1 HSZ.out.2.2 (HEE.out _ HU3.out)).mono ?_
 rintro e w4 ⟨rfl,hu4⟩
 have HU4:=Lib.hid (HU3.out.trans_ext hu4)
 have HB4:=Lib.hid (hu4.at HB3.out (by simp))
 obtain⟨⟨r1,r2⟩,hr⟩:∃r,treeQ q=r:=⟨_,rfl⟩
 rw [hr] at HRL ⊢
 clear hr
 unfold pairV at HRL ⊢
 simp only at HRL ⊢
 have hp4:=HB4.out
 obtain⟨p0,p1,p2,p3,p4,p5,p6⟩:=kBw hp4
 clear hp4
 clear hu4
 go_wp2_with fail
 refine (HRL.out _ HU4.out).mono ?_
 rintro e w5 ⟨rfl,hu5⟩
 have HU5:=Lib.hid (HU4.out.trans_ext hu5)
 have HB5:=Lib.hid (hu5.at HB4.out (by simp))
 clear p0 p1 p2 p3 p4 p5 p6
 clear hu5
 go_wp2_with fail
 refine (HK.out _ HU5.out).mono ?_
 rintro e wk ⟨rfl,huk⟩
 have HUK:=Lib.hid (HU5.out.trans_ext huk)
 clear huk
 go_wp2_with fail
 go_ret
 exact⟨rfl,HUK.out⟩
end Go.Proofs.YtkhbpebpljdifaaGreatDoor
