/- Merged texts. -/
import Derived.Test.YtkhbpebpljdifaaGreatDoorMPrh
set_option maxRecDepth 100000
set_option maxHeartbeats 25600000
namespace Go.Proofs.YtkhbpebpljdifaaGreatDoor
open Go.RowKit Go.PL Go.Maps
theorem form_8c (k:Nat) (nn mm:Int) (nms:List (List UInt8)) (l:List Nd) (hk:kBk l≤k) (hin:inN 10000000 (.mk 8 nms 0 nn mm l)) (_hk7:k+1≤10000000) (v:Value) (w:World) (P:Nat→Prop) (h:NdV w P (.mk 8 nms 0 nn mm l) v) (hk0:¬(8:Int)<0) (hk1:¬(17:Int)<8) (hsb:kBq 8 nms.length l.length=false) (hall:nms.all kBj=true) (h1:¬mm<1) (hz:64<mm):Calls Tryz.prog 53 #[v] w fun e w'=>e=.returned (.int .i64 ((2:Nat):Int))∧Upto [] w w':=by
 obtain⟨a1,c1,a2,c2,rfl,hs,hg⟩:=h.open
 unfold inN at hin
 have HG:=Lib.hid hg
 obtain⟨a1',c1',ev,hnm⟩:=hs.get
 obtain⟨rfl,rfl⟩:a1=a1'∧c1=c1':=by simpa using ev
 have HN:Hid (∀i x,nms[i]?=some x→∃g o,a1=some ⟨g,o,none⟩∧w.cell? ⟨g,o+i,none⟩=some (.string ⟨x.toArray⟩)):=Lib.hid (fun i x hi=>hnm i _ (by rw [List.getElem?_map,hi];rfl))
 have HSZ:=Lib.hid hk
 have HIN:=Lib.hid hin
 have HAL:=Lib.hid hall
 have hu1:Upto [] w (w.alloc (.cells #[.int .i64 8,.slice a1 nms.length c1,.int .i64 0,.int .i64 nn,.int .i64 mm,.slice a2 l.length c2] 25)):=(Upto.refl [] w).alloc _
 have HB1:=Lib.hid (kAq w (.cells #[.int .i64 8,.slice a1 nms.length c1,.int .i64 0,.int .i64 nn,.int .i64 mm,.slice a2 l.length c2] 25))
 have HU1:=Lib.hid hu1
 have hll:=hin.2.2.1
 have hnl:=hin.1
 have hL0:(0:Int)≤l.length:=by omega
 have hL1:(l.length:Int)≤10000000:=by omega
 have hN0:(0:Int)≤nms.length:=by omega
 have hN1:(nms.length:Int)≤10000000:=by omega
 have HH:=Lib.hid (kKj 8)
 obtain⟨a,b,c,habc,ha17,hb17,hc17⟩:∃a b c:Nat,hasF 8=(a,b,c)∧a≤17∧b≤17∧c≤17:=by
  unfold hasF
  repeat' split
  all_goals exact⟨_,_,_,rfl,by decide,by decide,by decide⟩
 rw [habc] at HH
 simp only at HH
 obtain⟨hs0,hs1,hs2⟩:¬nms.length<a∧¬b<nms.length∧l.length=c:=by
  unfold kBq at hsb
  rw [habc] at hsb
  simp at hsb
  omega
 have ha0:(0:Int)≤a:=by omega
 have hb0:(0:Int)≤b:=by omega
 have hc0:(0:Int)≤c:=by omega
 have ha1:(a:Int)≤17:=by omega
 have hb1:(b:Int)≤17:=by omega
 have hc1:(c:Int)≤17:=by omega
 have q0:¬(nms.length:Int)<a:=by omega
 have q1:¬(b:Int)<nms.length:=by omega
 have q2:((l.length:Int) != (c:Int))=false:=by rw [hs2];simp
 clear habc hsb hall h hs hg hk hu1 hnm ev hin hs2
 go_enter Tryz.func53,Tryz.ntmps53
 go_wp2_with fail
 refine (HH.out (w.alloc (.cells #[.int .i64 8,.slice a1 nms.length c1,.int .i64 0,.int .i64 nn,.int .i64 mm,.slice a2 l.length c2] 25))).mono ?_
 rintro e w3 ⟨rfl,hu3⟩
 have HU3:=Lib.hid (HU1.out.trans_ext hu3)
 have hb3:=hu3.at HB1.out (by simp)
 have HB3:=Lib.hid hb3
 obtain⟨y0,y1,y2,y3,y4,y5⟩:=kAx hb3
 clear hu3 hb3
 go_wp2_with fail
 go_loopw [6] (fun i wr=>∃j:Nat,j≤nms.length∧i=.int .i64 j∧Hid (Upto [] w3 wr)) (fun i _=>nms.length-(intOf i).toNat)
 case atStart=>exact⟨0,by omega,rfl,Lib.hid (Upto.refl _ _)⟩
 case round =>
  clear y0 y1 y2 y3 y4 y5
  obtain⟨j,hj,rfl,HU⟩:=hrel
  have hj0:(0:Int)≤j:=by omega
  have hb:=HU.out.at HB3.out (by simp)
  have HB:=Lib.hid hb
  obtain⟨y0,y1,y2,y3,y4,y5⟩:=kAx hb
  have HW:=Lib.hid (HU3.out.trans_ext HU.out)
  rcases Nat.lt_or_ge j nms.length with hlt | hge
  ·have hltI:(j:Int)<nms.length:=by omega
   obtain⟨x,hx⟩:∃x,nms[j]?=some x:=⟨_,List.getElem?_eq_getElem hlt⟩
   have hxl:=HIN.out.2.1 x (List.mem_of_getElem? hx)
   obtain⟨g,o,rfl,c0⟩:=HN.out j x hx
   replace c0:=kAw HW.out c0
   have HC:=Lib.hid (kGz x wr (by omega))
   have hb2:kBj x=true:=List.all_eq_true.1 HAL.out x (List.mem_of_getElem? hx)
   rw [hb2] at HC
   clear hx hb hb2
   go_wp2_with fail
   refine HC.out.mono ?_
   rintro e w5 ⟨rfl,hu5⟩
   have HU5:=Lib.hid (HU.out.trans_ext hu5)
   clear hu5
   go_wp2_with fail
   go_roundw
   case rel=>first | exact⟨j+1,by omega,by go_num,HU5⟩ | exact⟨_,_,_,_,_,_,_,_,_,_,_,_,_,_,_,_,⟨j+1,by omega,by go_num,HU5⟩,rfl⟩
   case measure=>simp [intOf];omega
  ·have hgeI:¬(j:Int)<nms.length:=by omega
   clear hb q0 q1 q2 hs0 hs1 ha0 hb0 hc0 ha1 hb1 hc1 HH HAL HN
   go_wp2_with fail
   go_ret
   exact⟨rfl,HW.out⟩
theorem form_8d (k:Nat) (nn mm:Int) (nms:List (List UInt8)) (l:List Nd) (hk:kBk l≤k) (hin:inN 10000000 (.mk 8 nms 0 nn mm l)) (_hk7:k+1≤10000000) (v:Value) (w:World) (P:Nat→Prop) (h:NdV w P (.mk 8 nms 0 nn mm l) v) (hk0:¬(8:Int)<0) (hk1:¬(17:Int)<8) (hsb:kBq 8 nms.length l.length=false) (hall:nms.all kBj=true) (h1:¬mm<1) (h2:¬64<mm) (hz:nn<0):Calls Tryz.prog 53 #[v] w fun e w'=>e=.returned (.int .i64 ((2:Nat):Int))∧Upto [] w w':=by
 obtain⟨a1,c1,a2,c2,rfl,hs,hg⟩:=h.open
 unfold inN at hin
 have HG:=Lib.hid hg
 obtain⟨a1',c1',ev,hnm⟩:=hs.get
 obtain⟨rfl,rfl⟩:a1=a1'∧c1=c1':=by simpa using ev
 have HN:Hid (∀i x,nms[i]?=some x→∃g o,a1=some ⟨g,o,none⟩∧w.cell? ⟨g,o+i,none⟩=some (.string ⟨x.toArray⟩)):=Lib.hid (fun i x hi=>hnm i _ (by rw [List.getElem?_map,hi];rfl))
 have HSZ:=Lib.hid hk
 have HIN:=Lib.hid hin
 have HAL:=Lib.hid hall
 have hu1:Upto [] w (w.alloc (.cells #[.int .i64 8,.slice a1 nms.length c1,.int .i64 0,.int .i64 nn,.int .i64 mm,.slice a2 l.length c2] 25)):=(Upto.refl [] w).alloc _
 have HB1:=Lib.hid (kAq w (.cells #[.int .i64 8,.slice a1 nms.length c1,.int .i64 0,.int .i64 nn,.int .i64 mm,.slice a2 l.length c2] 25))
 have HU1:=Lib.hid hu1
 have hll:=hin.2.2.1
 have hnl:=hin.1
 have hL0:(0:Int)≤l.length:=by omega
 have hL1:(l.length:Int)≤10000000:=by omega
 have hN0:(0:Int)≤nms.length:=by omega
 have hN1:(nms.length:Int)≤10000000:=by omega
 have HH:=Lib.hid (kKj 8)
 obtain⟨a,b,c,habc,ha17,hb17,hc17⟩:∃a b c:Nat,hasF 8=(a,b,c)∧a≤17∧b≤17∧c≤17:=by
  unfold hasF
  repeat' split
  all_goals exact⟨_,_,_,rfl,by decide,by decide,by decide⟩
 rw [habc] at HH
 simp only at HH
 obtain⟨hs0,hs1,hs2⟩:¬nms.length<a∧¬b<nms.length∧l.length=c:=by
  unfold kBq at hsb
  rw [habc] at hsb
  simp at hsb
  omega
 have ha0:(0:Int)≤a:=by omega
 have hb0:(0:Int)≤b:=by omega
 have hc0:(0:Int)≤c:=by omega
 have ha1:(a:Int)≤17:=by omega
 have hb1:(b:Int)≤17:=by omega
 have hc1:(c:Int)≤17:=by omega
 have q0:¬(nms.length:Int)<a:=by omega
 have q1:¬(b:Int)<nms.length:=by omega
 have q2:((l.length:Int) != (c:Int))=false:=by rw [hs2];simp
 clear habc hsb hall h hs hg hk hu1 hnm ev hin hs2
 go_enter Tryz.func53,Tryz.ntmps53
 go_wp2_with fail
 refine (HH.out (w.alloc (.cells #[.int .i64 8,.slice a1 nms.length c1,.int .i64 0,.int .i64 nn,.int .i64 mm,.slice a2 l.length c2] 25))).mono ?_
 rintro e w3 ⟨rfl,hu3⟩
 have HU3:=Lib.hid (HU1.out.trans_ext hu3)
 have hb3:=hu3.at HB1.out (by simp)
 have HB3:=Lib.hid hb3
 obtain⟨y0,y1,y2,y3,y4,y5⟩:=kAx hb3
 clear hu3 hb3
 go_wp2_with fail
 go_loopw [6] (fun i wr=>∃j:Nat,j≤nms.length∧i=.int .i64 j∧Hid (Upto [] w3 wr)) (fun i _=>nms.length-(intOf i).toNat)
 case atStart=>exact⟨0,by omega,rfl,Lib.hid (Upto.refl _ _)⟩
 case round =>
  clear y0 y1 y2 y3 y4 y5
  obtain⟨j,hj,rfl,HU⟩:=hrel
  have hj0:(0:Int)≤j:=by omega
  have hb:=HU.out.at HB3.out (by simp)
  have HB:=Lib.hid hb
  obtain⟨y0,y1,y2,y3,y4,y5⟩:=kAx hb
  have HW:=Lib.hid (HU3.out.trans_ext HU.out)
  rcases Nat.lt_or_ge j nms.length with hlt | hge
  ·have hltI:(j:Int)<nms.length:=by omega
   obtain⟨x,hx⟩:∃x,nms[j]?=some x:=⟨_,List.getElem?_eq_getElem hlt⟩
   have hxl:=HIN.out.2.1 x (List.mem_of_getElem? hx)
   obtain⟨g,o,rfl,c0⟩:=HN.out j x hx
   replace c0:=kAw HW.out c0
   have HC:=Lib.hid (kGz x wr (by omega))
   have hb2:kBj x=true:=List.all_eq_true.1 HAL.out x (List.mem_of_getElem? hx)
   rw [hb2] at HC
   clear hx hb hb2
   go_wp2_with fail
   refine HC.out.mono ?_
   rintro e w5 ⟨rfl,hu5⟩
   have HU5:=Lib.hid (HU.out.trans_ext hu5)
   clear hu5
   go_wp2_with fail
   go_roundw
   case rel=>first | exact⟨j+1,by omega,by go_num,HU5⟩ | exact⟨_,_,_,_,_,_,_,_,_,_,_,_,_,_,_,_,⟨j+1,by omega,by go_num,HU5⟩,rfl⟩
   case measure=>simp [intOf];omega
  ·have hgeI:¬(j:Int)<nms.length:=by omega
   clear hb q0 q1 q2 hs0 hs1 ha0 hb0 hc0 ha1 hb1 hc1 HH HAL HN
   go_wp2_with fail
   go_ret
   exact⟨rfl,HW.out⟩
theorem form_8e (k:Nat) (nn mm:Int) (nms:List (List UInt8)) (l:List Nd) (hk:kBk l≤k) (hin:inN 10000000 (.mk 8 nms 0 nn mm l)) (_hk7:k+1≤10000000) (v:Value) (w:World) (P:Nat→Prop) (h:NdV w P (.mk 8 nms 0 nn mm l) v) (hk0:¬(8:Int)<0) (hk1:¬(17:Int)<8) (hsb:kBq 8 nms.length l.length=false) (hall:nms.all kBj=true) (h1:¬mm<1) (h2:¬64<mm) (h3:¬nn<0) (hz:mm≤nn):Calls Tryz.prog 53 #[v] w fun e w'=>e=.returned (.int .i64 ((2:Nat):Int))∧Upto [] w w':=by
 obtain⟨a1,c1,a2,c2,rfl,hs,hg⟩:=h.open
 unfold inN at hin
 have HG:=Lib.hid hg
 obtain⟨a1',c1',ev,hnm⟩:=hs.get
 obtain⟨rfl,rfl⟩:a1=a1'∧c1=c1':=by simpa using ev
 have HN:Hid (∀i x,nms[i]?=some x→∃g o,a1=some ⟨g,o,none⟩∧w.cell? ⟨g,o+i,none⟩=some (.string ⟨x.toArray⟩)):=Lib.hid (fun i x hi=>hnm i _ (by rw [List.getElem?_map,hi];rfl))
 have HSZ:=Lib.hid hk
 have HIN:=Lib.hid hin
 have HAL:=Lib.hid hall
 have hu1:Upto [] w (w.alloc (.cells #[.int .i64 8,.slice a1 nms.length c1,.int .i64 0,.int .i64 nn,.int .i64 mm,.slice a2 l.length c2] 25)):=(Upto.refl [] w).alloc _
 have HB1:=Lib.hid (kAq w (.cells #[.int .i64 8,.slice a1 nms.length c1,.int .i64 0,.int .i64 nn,.int .i64 mm,.slice a2 l.length c2] 25))
 have HU1:=Lib.hid hu1
 have hll:=hin.2.2.1
 have hnl:=hin.1
 have hL0:(0:Int)≤l.length:=by omega
 have hL1:(l.length:Int)≤10000000:=by omega
 have hN0:(0:Int)≤nms.length:=by omega
 have hN1:(nms.length:Int)≤10000000:=by omega
 have HH:=Lib.hid (kKj 8)
 obtain⟨a,b,c,habc,ha17,hb17,hc17⟩:∃a b c:Nat,hasF 8=(a,b,c)∧a≤17∧b≤17∧c≤17:=by
  unfold hasF
  repeat' split
  all_goals exact⟨_,_,_,rfl,by decide,by decide,by decide⟩
 rw [habc] at HH
 simp only at HH
 obtain⟨hs0,hs1,hs2⟩:¬nms.length<a∧¬b<nms.length∧l.length=c:=by
  unfold kBq at hsb
  rw [habc] at hsb
  simp at hsb
  omega
 have ha0:(0:Int)≤a:=by omega
 have hb0:(0:Int)≤b:=by omega
 have hc0:(0:Int)≤c:=by omega
 have ha1:(a:Int)≤17:=by omega
 have hb1:(b:Int)≤17:=by omega
 have hc1:(c:Int)≤17:=by omega
 have q0:¬(nms.length:Int)<a:=by omega
 have q1:¬(b:Int)<nms.length:=by omega
 have q2:((l.length:Int) != (c:Int))=false:=by rw [hs2];simp
 clear habc hsb hall h hs hg hk hu1 hnm ev hin hs2
 go_enter Tryz.func53,Tryz.ntmps53
 go_wp2_with fail
 refine (HH.out (w.alloc (.cells #[.int .i64 8,.slice a1 nms.length c1,.int .i64 0,.int .i64 nn,.int .i64 mm,.slice a2 l.length c2] 25))).mono ?_
 rintro e w3 ⟨rfl,hu3⟩
 have HU3:=Lib.hid (HU1.out.trans_ext hu3)
 have hb3:=hu3.at HB1.out (by simp)
 have HB3:=Lib.hid hb3
 obtain⟨y0,y1,y2,y3,y4,y5⟩:=kAx hb3
 clear hu3 hb3
 go_wp2_with fail
 go_loopw [6] (fun i wr=>∃j:Nat,j≤nms.length∧i=.int .i64 j∧Hid (Upto [] w3 wr)) (fun i _=>nms.length-(intOf i).toNat)
 case atStart=>exact⟨0,by omega,rfl,Lib.hid (Upto.refl _ _)⟩
 case round =>
  clear y0 y1 y2 y3 y4 y5
  obtain⟨j,hj,rfl,HU⟩:=hrel
  have hj0:(0:Int)≤j:=by omega
  have hb:=HU.out.at HB3.out (by simp)
  have HB:=Lib.hid hb
  obtain⟨y0,y1,y2,y3,y4,y5⟩:=kAx hb
  have HW:=Lib.hid (HU3.out.trans_ext HU.out)
  rcases Nat.lt_or_ge j nms.length with hlt | hge
  ·have hltI:(j:Int)<nms.length:=by omega
   obtain⟨x,hx⟩:∃x,nms[j]?=some x:=⟨_,List.getElem?_eq_getElem hlt⟩
   have hxl:=HIN.out.2.1 x (List.mem_of_getElem? hx)
   obtain⟨g,o,rfl,c0⟩:=HN.out j x hx
   replace c0:=kAw HW.out c0
   have HC:=Lib.hid (kGz x wr (by omega))
   have hb2:kBj x=true:=List.all_eq_true.1 HAL.out x (List.mem_of_getElem? hx)
   rw [hb2] at HC
   clear hx hb hb2
   go_wp2_with fail
   refine HC.out.mono ?_
   rintro e w5 ⟨rfl,hu5⟩
   have HU5:=Lib.hid (HU.out.trans_ext hu5)
   clear hu5
   go_wp2_with fail
   go_roundw
   case rel=>first | exact⟨j+1,by omega,by go_num,HU5⟩ | exact⟨_,_,_,_,_,_,_,_,_,_,_,_,_,_,_,_,⟨j+1,by omega,by go_num,HU5⟩,rfl⟩
   case measure=>simp [intOf];omega
  ·have hgeI:¬(j:Int)<nms.length:=by omega
   clear hb q0 q1 q2 hs0 hs1 ha0 hb0 hc0 ha1 hb1 hc1 HH HAL HN
   go_wp2_with fail
   go_ret
   exact⟨rfl,HW.out⟩
theorem form_8g (k:Nat) (nn mm:Int) (nms:List (List UInt8)) (l:List Nd) (hk:kBk l≤k) (hin:inN 10000000 (.mk 8 nms 0 nn mm l)) (_hk7:k+1≤10000000) (v:Value) (w:World) (P:Nat→Prop) (h:NdV w P (.mk 8 nms 0 nn mm l) v) (hk0:¬(8:Int)<0) (hk1:¬(17:Int)<8) (hsb:kBq 8 nms.length l.length=false) (hall:nms.all kBj=true) (h1:¬mm<1) (h2:¬64<mm) (h3:¬nn<0) (h4:¬mm≤nn) (IH:∀(nd:Nd),kCz nd≤k→inN 10000000 nd→∀(v:Value) (w:World) (P:Nat→Prop),NdV w P nd v→Calls Tryz.prog 53 #[v] w fun e w'=>e=.returned (.int .i64 (kKk kBj nd:Nat))∧Upto [] w w'):Calls Tryz.prog 53 #[v] w fun e w'=>e=.returned (.int .i64 ((kHx kBj l:Nat):Int))∧Upto [] w w':=by
 obtain⟨a1,c1,a2,c2,rfl,hs,hg⟩:=h.open
 unfold inN at hin
 have HG:=Lib.hid hg
 obtain⟨a1',c1',ev,hnm⟩:=hs.get
 obtain⟨rfl,rfl⟩:a1=a1'∧c1=c1':=by simpa using ev
 have HN:Hid (∀i x,nms[i]?=some x→∃g o,a1=some ⟨g,o,none⟩∧w.cell? ⟨g,o+i,none⟩=some (.string ⟨x.toArray⟩)):=Lib.hid (fun i x hi=>hnm i _ (by rw [List.getElem?_map,hi];rfl))
 have HSZ:=Lib.hid hk
 have HIN:=Lib.hid hin
 have HAL:=Lib.hid hall
 have hu1:Upto [] w (w.alloc (.cells #[.int .i64 8,.slice a1 nms.length c1,.int .i64 0,.int .i64 nn,.int .i64 mm,.slice a2 l.length c2] 25)):=(Upto.refl [] w).alloc _
 have HB1:=Lib.hid (kAq w (.cells #[.int .i64 8,.slice a1 nms.length c1,.int .i64 0,.int .i64 nn,.int .i64 mm,.slice a2 l.length c2] 25))
 have HU1:=Lib.hid hu1
 have hll:=hin.2.2.1
 have hnl:=hin.1
 have hL0:(0:Int)≤l.length:=by omega
 have hL1:(l.length:Int)≤10000000:=by omega
 have hN0:(0:Int)≤nms.length:=by omega
 have hN1:(nms.length:Int)≤10000000:=by omega
 have HH:=Lib.hid (kKj 8)
 obtain⟨a,b,c,habc,ha17,hb17,hc17⟩:∃a b c:Nat,hasF 8=(a,b,c)∧a≤17∧b≤17∧c≤17:=by
  unfold hasF
  repeat' split
  all_goals exact⟨_,_,_,rfl,by decide,by decide,by decide⟩
 rw [habc] at HH
 simp only at HH
 obtain⟨hs0,hs1,hs2⟩:¬nms.length<a∧¬b<nms.length∧l.length=c:=by
  unfold kBq at hsb
  rw [habc] at hsb
  simp at hsb
  omega
 have ha0:(0:Int)≤a:=by omega
 have hb0:(0:Int)≤b:=by omega
 have hc0:(0:Int)≤c:=by omega
 have ha1:(a:Int)≤17:=by omega
 have hb1:(b:Int)≤17:=by omega
 have hc1:(c:Int)≤17:=by omega
 have q0:¬(nms.length:Int)<a:=by omega
 have q1:¬(b:Int)<nms.length:=by omega
 have q2:((l.length:Int) != (c:Int))=false:=by rw [hs2];simp
 clear habc hsb hall h hs hg hk hu1 hnm ev hin hs2
 go_enter Tryz.func53,Tryz.ntmps53
 go_wp2_with fail
 refine (HH.out (w.alloc (.cells #[.int .i64 8,.slice a1 nms.length c1,.int .i64 0,.int .i64 nn,.int .i64 mm,.slice a2 l.length c2] 25))).mono ?_
 rintro e w3 ⟨rfl,hu3⟩
 have HU3:=Lib.hid (HU1.out.trans_ext hu3)
 have hb3:=hu3.at HB1.out (by simp)
 have HB3:=Lib.hid hb3
 obtain⟨y0,y1,y2,y3,y4,y5⟩:=kAx hb3
 clear hu3 hb3
 go_wp2_with fail
 go_loopw [6] (fun i wr=>∃j:Nat,j≤nms.length∧i=.int .i64 j∧Hid (Upto [] w3 wr)) (fun i _=>nms.length-(intOf i).toNat)
 case atStart=>exact⟨0,by omega,rfl,Lib.hid (Upto.refl _ _)⟩
 case round =>
  clear y0 y1 y2 y3 y4 y5
  obtain⟨j,hj,rfl,HU⟩:=hrel
  have hj0:(0:Int)≤j:=by omega
  have hb:=HU.out.at HB3.out (by simp)
  have HB:=Lib.hid hb
  obtain⟨y0,y1,y2,y3,y4,y5⟩:=kAx hb
  have HW:=Lib.hid (HU3.out.trans_ext HU.out)
  rcases Nat.lt_or_ge j nms.length with hlt | hge
  ·have hltI:(j:Int)<nms.length:=by omega
   obtain⟨x,hx⟩:∃x,nms[j]?=some x:=⟨_,List.getElem?_eq_getElem hlt⟩
   have hxl:=HIN.out.2.1 x (List.mem_of_getElem? hx)
   obtain⟨g,o,rfl,c0⟩:=HN.out j x hx
   replace c0:=kAw HW.out c0
   have HC:=Lib.hid (kGz x wr (by omega))
   have hb2:kBj x=true:=List.all_eq_true.1 HAL.out x (List.mem_of_getElem? hx)
   rw [hb2] at HC
   clear hx hb hb2
   go_wp2_with fail
   refine HC.out.mono ?_
   rintro e w5 ⟨rfl,hu5⟩
   have HU5:=Lib.hid (HU.out.trans_ext hu5)
   clear hu5
   go_wp2_with fail
   go_roundw
   case rel=>first | exact⟨j+1,by omega,by go_num,HU5⟩ | exact⟨_,_,_,_,_,_,_,_,_,_,_,_,_,_,_,_,⟨j+1,by omega,by go_num,HU5⟩,rfl⟩
   case measure=>simp [intOf];omega
  ·have hgeI:¬(j:Int)<nms.length:=by omega
   clear hb q0 q1 q2 hs0 hs1 ha0 hb0 hc0 ha1 hb1 hc1 HH HAL HN
   go_wp2_with fail
   go_loopw [7] (fun i wx=>∃m:Nat,m≤l.length∧i=.int .i64 m∧Hid (kHx kBj (l.drop m)=kHx kBj l)∧Hid (Upto [] wr wx)) (fun i _=>l.length-(intOf i).toNat)
   case atStart=>exact⟨0,by omega,rfl,Lib.hid rfl,Lib.hid (Upto.refl _ _)⟩
   case round =>
    clear y0 y1 y2 y3 y4 y5
    obtain⟨m,hm,rfl,HB9,HV⟩:=hrel
    have hm0:(0:Int)≤m:=by omega
    have hb:=HV.out.at HB.out (by simp)
    have y5:=kAz hb 5
    simp only [List.getElem?_toArray,List.getElem?_cons_zero,List.getElem?_cons_succ] at y5
    have HW2:=Lib.hid (HW.out.trans_ext HV.out)
    rcases Nat.lt_or_ge m l.length with hlt | hge2
    ·have hltI:(m:Int)<l.length:=by omega
     obtain⟨x,hx⟩:∃x,l[m]?=some x:=⟨_,List.getElem?_eq_getElem hlt⟩
     have HDR:Hid (l.drop m=x::l.drop (m+1)):=Lib.hid (by
      obtain⟨hi,h3⟩:=List.getElem?_eq_some_iff.1 hx
      rw [List.drop_eq_getElem_cons hi,h3])
     obtain⟨g,o,xo,xn1,xn2,xn3,xs,xm,xq,xl1,xl2,xl3,rfl,d0,d1,d2,d3,d4,d5,hnx⟩:=HG.out m x hx
     replace d0:=kAw HW2.out d0
     replace d1:=kAw HW2.out d1
     replace d2:=kAw HW2.out d2
     replace d3:=kAw HW2.out d3
     replace d4:=kAw HW2.out d4
     replace d5:=kAw HW2.out d5
     have HC:=Lib.hid (IH x (by have:=HSZ.out;have:=kSx (List.mem_of_getElem? hx);omega) (insN_mem HIN.out.2.2.2 (List.mem_of_getElem? hx)) _ wr P (hnx.ext HW2.out))
     by_cases hz:kKk kBj x=0
     ·have HA2:Hid (kHx kBj (l.drop (m+1))=kHx kBj l):=Lib.hid (by
       rw [←HB9.out,HDR.out]
       conv=>rhs;unfold kHx
       rw [hz]
       rfl)
      rw [hz] at HC
      clear hx hb hz hnx
      go_wp2_with fail
      refine HC.out.mono ?_
      rintro e w5 ⟨rfl,hu5⟩
      have HU5:=Lib.hid (HV.out.trans_ext hu5)
      clear hu5
      go_wp2_with fail
      go_roundw
      case rel=>first | exact⟨m+1,by omega,by go_num,HA2,HU5⟩ | exact⟨_,_,_,_,_,_,_,_,_,_,_,_,_,_,_,_,_,_,_,⟨m+1,by omega,by go_num,HA2,HU5⟩,rfl⟩
      case measure=>simp [intOf];omega
     ·have HF:Hid (kHx kBj l=kKk kBj x):=Lib.hid (by
       rw [←HB9.out,HDR.out]
       unfold kHx
       rw [if_pos hz])
      generalize hfx:kKk kBj x=fx at *
      have ez:((fx:Int)==0)=false:=by rw [beq_eq_false_iff_ne];omega
      have ez2:((fx:Int) != 0)=true:=by rw [bne,ez];rfl
      clear hx hb hz hnx hfx
      go_wp2_with fail
      refine HC.out.mono ?_
      rintro e w5 ⟨rfl,hu5⟩
      have HU5:=Lib.hid (HW2.out.trans_ext hu5)
      clear hu5
      go_wp2_with fail
      go_ret
      rw [HF.out]
      exact⟨rfl,HU5.out⟩
    ·have hgeJ:¬(m:Int)<l.length:=by omega
     have HF:Hid (kHx kBj l=0):=Lib.hid (by
      rw [←HB9.out,List.drop_of_length_le (by omega)]
      rfl)
     clear hb
     go_wp2_with fail
     go_ret
     rw [HF.out]
     exact⟨rfl,HW2.out⟩
theorem form_oa (k:Nat) (op so nn mm:Int) (nms:List (List UInt8)) (l:List Nd) (hk:kBk l≤k) (hin:inN 10000000 (.mk op nms so nn mm l)) (_hk7:k+1≤10000000) (v:Value) (w:World) (P:Nat→Prop) (h:NdV w P (.mk op nms so nn mm l) v) (hk0:¬(op:Int)<0) (hk1:¬(17:Int)<op) (hsb:kBq op nms.length l.length=false) (hall:nms.all kBj=true) (o7:op≠7) (o8:op≠8) (o16:op<16) (hz:nn≠0):Calls Tryz.prog 53 #[v] w fun e w'=>e=.returned (.int .i64 ((3:Nat):Int))∧Upto [] w w':=by
 obtain⟨a1,c1,a2,c2,rfl,hs,hg⟩:=h.open
 unfold inN at hin
 have HG:=Lib.hid hg
 obtain⟨a1',c1',ev,hnm⟩:=hs.get
 obtain⟨rfl,rfl⟩:a1=a1'∧c1=c1':=by simpa using ev
 have HN:Hid (∀i x,nms[i]?=some x→∃g o,a1=some ⟨g,o,none⟩∧w.cell? ⟨g,o+i,none⟩=some (.string ⟨x.toArray⟩)):=Lib.hid (fun i x hi=>hnm i _ (by rw [List.getElem?_map,hi];rfl))
 have HSZ:=Lib.hid hk
 have HIN:=Lib.hid hin
 have HAL:=Lib.hid hall
 have hu1:Upto [] w (w.alloc (.cells #[.int .i64 op,.slice a1 nms.length c1,.int .i64 so,.int .i64 nn,.int .i64 mm,.slice a2 l.length c2] 25)):=(Upto.refl [] w).alloc _
 have HB1:=Lib.hid (kAq w (.cells #[.int .i64 op,.slice a1 nms.length c1,.int .i64 so,.int .i64 nn,.int .i64 mm,.slice a2 l.length c2] 25))
 have HU1:=Lib.hid hu1
 have hll:=hin.2.2.1
 have hnl:=hin.1
 have hL0:(0:Int)≤l.length:=by omega
 have hL1:(l.length:Int)≤10000000:=by omega
 have hN0:(0:Int)≤nms.length:=by omega
 have hN1:(nms.length:Int)≤10000000:=by omega
 have HH:=Lib.hid (kKj op)
 obtain⟨a,b,c,habc,ha17,hb17,hc17⟩:∃a b c:Nat,hasF op=(a,b,c)∧a≤17∧b≤17∧c≤17:=by
  unfold hasF
  repeat' split
  all_goals exact⟨_,_,_,rfl,by decide,by decide,by decide⟩
 rw [habc] at HH
 simp only at HH
 obtain⟨hs0,hs1,hs2⟩:¬nms.length<a∧¬b<nms.length∧l.length=c:=by
  unfold kBq at hsb
  rw [habc] at hsb
  simp at hsb
  omega
 have ha0:(0:Int)≤a:=by omega
 have hb0:(0:Int)≤b:=by omega
 have hc0:(0:Int)≤c:=by omega
 have ha1:(a:Int)≤17:=by omega
 have hb1:(b:Int)≤17:=by omega
 have hc1:(c:Int)≤17:=by omega
 have q0:¬(nms.length:Int)<a:=by omega
 have q1:¬(b:Int)<nms.length:=by omega
 have q2:((l.length:Int) != (c:Int))=false:=by rw [hs2];simp
 clear habc hsb hall h hs hg hk hu1 hnm ev hin hs2
 go_enter Tryz.func53,Tryz.ntmps53
 go_wp2_with fail
 refine (HH.out (w.alloc (.cells #[.int .i64 op,.slice a1 nms.length c1,.int .i64 so,.int .i64 nn,.int .i64 mm,.slice a2 l.length c2] 25))).mono ?_
 rintro e w3 ⟨rfl,hu3⟩
 have HU3:=Lib.hid (HU1.out.trans_ext hu3)
 have hb3:=hu3.at HB1.out (by simp)
 have HB3:=Lib.hid hb3
 obtain⟨y0,y1,y2,y3,y4,y5⟩:=kAx hb3
 clear hu3 hb3
 go_wp2_with fail
 go_loopw [6] (fun i wr=>∃j:Nat,j≤nms.length∧i=.int .i64 j∧Hid (Upto [] w3 wr)) (fun i _=>nms.length-(intOf i).toNat)
 case atStart=>exact⟨0,by omega,rfl,Lib.hid (Upto.refl _ _)⟩
 case round =>
  clear y0 y1 y2 y3 y4 y5
  obtain⟨j,hj,rfl,HU⟩:=hrel
  have hj0:(0:Int)≤j:=by omega
  have hb:=HU.out.at HB3.out (by simp)
  have HB:=Lib.hid hb
  obtain⟨y0,y1,y2,y3,y4,y5⟩:=kAx hb
  have HW:=Lib.hid (HU3.out.trans_ext HU.out)
  rcases Nat.lt_or_ge j nms.length with hlt | hge
  ·have hltI:(j:Int)<nms.length:=by omega
   obtain⟨x,hx⟩:∃x,nms[j]?=some x:=⟨_,List.getElem?_eq_getElem hlt⟩
   have hxl:=HIN.out.2.1 x (List.mem_of_getElem? hx)
   obtain⟨g,o,rfl,c0⟩:=HN.out j x hx
   replace c0:=kAw HW.out c0
   have HC:=Lib.hid (kGz x wr (by omega))
   have hb2:kBj x=true:=List.all_eq_true.1 HAL.out x (List.mem_of_getElem? hx)
   rw [hb2] at HC
   clear hx hb hb2
   go_wp2_with fail
   refine HC.out.mono ?_
   rintro e w5 ⟨rfl,hu5⟩
   have HU5:=Lib.hid (HU.out.trans_ext hu5)
   clear hu5
   go_wp2_with fail
   go_roundw
   case rel=>first | exact⟨j+1,by omega,by go_num,HU5⟩ | exact⟨_,_,_,_,_,_,_,_,_,_,_,_,_,_,_,_,⟨j+1,by omega,by go_num,HU5⟩,rfl⟩
   case measure=>simp [intOf];omega
  ·have hgeI:¬(j:Int)<nms.length:=by omega
   clear hb q0 q1 q2 hs0 hs1 ha0 hb0 hc0 ha1 hb1 hc1 HH HAL HN
   have eop7:(op==(7:Int))=false:=by rw [beq_eq_false_iff_ne];omega
   have fop7:(op != (7:Int))=true:=by rw [bne,eop7];rfl
   have eop8:(op==(8:Int))=false:=by rw [beq_eq_false_iff_ne];omega
   have fop8:(op != (8:Int))=true:=by rw [bne,eop8];rfl
   have enn0:(nn==(0:Int))=false:=by rw [beq_eq_false_iff_ne];exact hz
   have fnn0:(nn != (0:Int))=true:=by rw [bne,enn0];rfl
   go_wp2_with fail
   go_ret
   exact⟨rfl,HW.out⟩
theorem form_ob (k:Nat) (op so mm:Int) (nms:List (List UInt8)) (l:List Nd) (hk:kBk l≤k) (hin:inN 10000000 (.mk op nms so 0 mm l)) (_hk7:k+1≤10000000) (v:Value) (w:World) (P:Nat→Prop) (h:NdV w P (.mk op nms so 0 mm l) v) (hk0:¬(op:Int)<0) (hk1:¬(17:Int)<op) (hsb:kBq op nms.length l.length=false) (hall:nms.all kBj=true) (o7:op≠7) (o8:op≠8) (o16:op<16) (hz:mm≠0):Calls Tryz.prog 53 #[v] w fun e w'=>e=.returned (.int .i64 ((3:Nat):Int))∧Upto [] w w':=by
 obtain⟨a1,c1,a2,c2,rfl,hs,hg⟩:=h.open
 unfold inN at hin
 have HG:=Lib.hid hg
 obtain⟨a1',c1',ev,hnm⟩:=hs.get
 obtain⟨rfl,rfl⟩:a1=a1'∧c1=c1':=by simpa using ev
 have HN:Hid (∀i x,nms[i]?=some x→∃g o,a1=some ⟨g,o,none⟩∧w.cell? ⟨g,o+i,none⟩=some (.string ⟨x.toArray⟩)):=Lib.hid (fun i x hi=>hnm i _ (by rw [List.getElem?_map,hi];rfl))
 have HSZ:=Lib.hid hk
 have HIN:=Lib.hid hin
 have HAL:=Lib.hid hall
 have hu1:Upto [] w (w.alloc (.cells #[.int .i64 op,.slice a1 nms.length c1,.int .i64 so,.int .i64 0,.int .i64 mm,.slice a2 l.length c2] 25)):=(Upto.refl [] w).alloc _
 have HB1:=Lib.hid (kAq w (.cells #[.int .i64 op,.slice a1 nms.length c1,.int .i64 so,.int .i64 0,.int .i64 mm,.slice a2 l.length c2] 25))
 have HU1:=Lib.hid hu1
 have hll:=hin.2.2.1
 have hnl:=hin.1
 have hL0:(0:Int)≤l.length:=by omega
 have hL1:(l.length:Int)≤10000000:=by omega
 have hN0:(0:Int)≤nms.length:=by omega
 have hN1:(nms.length:Int)≤10000000:=by omega
 have HH:=Lib.hid (kKj op)
 obtain⟨a,b,c,habc,ha17,hb17,hc17⟩:∃a b c:Nat,hasF op=(a,b,c)∧a≤17∧b≤17∧c≤17:=by
  unfold hasF
  repeat' split
  all_goals exact⟨_,_,_,rfl,by decide,by decide,by decide⟩
 rw [habc] at HH
 simp only at HH
 obtain⟨hs0,hs1,hs2⟩:¬nms.length<a∧¬b<nms.length∧l.length=c:=by
  unfold kBq at hsb
  rw [habc] at hsb
  simp at hsb
  omega
 have ha0:(0:Int)≤a:=by omega
 have hb0:(0:Int)≤b:=by omega
 have hc0:(0:Int)≤c:=by omega
 have ha1:(a:Int)≤17:=by omega
 have hb1:(b:Int)≤17:=by omega
 have hc1:(c:Int)≤17:=by omega
 have q0:¬(nms.length:Int)<a:=by omega
 have q1:¬(b:Int)<nms.length:=by omega
 have q2:((l.length:Int) != (c:Int))=false:=by rw [hs2];simp
 clear habc hsb hall h hs hg hk hu1 hnm ev hin hs2
 go_enter Tryz.func53,Tryz.ntmps53
 go_wp2_with fail
 refine (HH.out (w.alloc (.cells #[.int .i64 op,.slice a1 nms.length c1,.int .i64 so,.int .i64 0,.int .i64 mm,.slice a2 l.length c2] 25))).mono ?_
 rintro e w3 ⟨rfl,hu3⟩
 have HU3:=Lib.hid (HU1.out.trans_ext hu3)
 have hb3:=hu3.at HB1.out (by simp)
 have HB3:=Lib.hid hb3
 obtain⟨y0,y1,y2,y3,y4,y5⟩:=kAx hb3
 clear hu3 hb3
 go_wp2_with fail
 go_loopw [6] (fun i wr=>∃j:Nat,j≤nms.length∧i=.int .i64 j∧Hid (Upto [] w3 wr)) (fun i _=>nms.length-(intOf i).toNat)
 case atStart=>exact⟨0,by omega,rfl,Lib.hid (Upto.refl _ _)⟩
 case round =>
  clear y0 y1 y2 y3 y4 y5
  obtain⟨j,hj,rfl,HU⟩:=hrel
  have hj0:(0:Int)≤j:=by omega
  have hb:=HU.out.at HB3.out (by simp)
  have HB:=Lib.hid hb
  obtain⟨y0,y1,y2,y3,y4,y5⟩:=kAx hb
  have HW:=Lib.hid (HU3.out.trans_ext HU.out)
  rcases Nat.lt_or_ge j nms.length with hlt | hge
  ·have hltI:(j:Int)<nms.length:=by omega
   obtain⟨x,hx⟩:∃x,nms[j]?=some x:=⟨_,List.getElem?_eq_getElem hlt⟩
   have hxl:=HIN.out.2.1 x (List.mem_of_getElem? hx)
   obtain⟨g,o,rfl,c0⟩:=HN.out j x hx
   replace c0:=kAw HW.out c0
   have HC:=Lib.hid (kGz x wr (by omega))
   have hb2:kBj x=true:=List.all_eq_true.1 HAL.out x (List.mem_of_getElem? hx)
   rw [hb2] at HC
   clear hx hb hb2
   go_wp2_with fail
   refine HC.out.mono ?_
   rintro e w5 ⟨rfl,hu5⟩
   have HU5:=Lib.hid (HU.out.trans_ext hu5)
   clear hu5
   go_wp2_with fail
   go_roundw
   case rel=>first | exact⟨j+1,by omega,by go_num,HU5⟩ | exact⟨_,_,_,_,_,_,_,_,_,_,_,_,_,_,_,_,⟨j+1,by omega,by go_num,HU5⟩,rfl⟩
   case measure=>simp [intOf];omega
  ·have hgeI:¬(j:Int)<nms.length:=by omega
   clear hb q0 q1 q2 hs0 hs1 ha0 hb0 hc0 ha1 hb1 hc1 HH HAL HN
   have eop7:(op==(7:Int))=false:=by rw [beq_eq_false_iff_ne];omega
   have fop7:(op != (7:Int))=true:=by rw [bne,eop7];rfl
   have eop8:(op==(8:Int))=false:=by rw [beq_eq_false_iff_ne];omega
   have fop8:(op != (8:Int))=true:=by rw [bne,eop8];rfl
   have emm0:(mm==(0:Int))=false:=by rw [beq_eq_false_iff_ne];exact hz
   have fmm0:(mm != (0:Int))=true:=by rw [bne,emm0];rfl
   go_wp2_with fail
   go_ret
   exact⟨rfl,HW.out⟩
theorem form_ha (k:Nat) (op so nn mm:Int) (nms:List (List UInt8)) (l:List Nd) (hk:kBk l≤k) (hin:inN 10000000 (.mk op nms so nn mm l)) (_hk7:k+1≤10000000) (v:Value) (w:World) (P:Nat→Prop) (h:NdV w P (.mk op nms so nn mm l) v) (hk0:¬(op:Int)<0) (hk1:¬(17:Int)<op) (hsb:kBq op nms.length l.length=false) (hall:nms.all kBj=true) (o7:op≠7) (o8:op≠8) (o16:¬op<16) (hz:nn≠0):Calls Tryz.prog 53 #[v] w fun e w'=>e=.returned (.int .i64 ((3:Nat):Int))∧Upto [] w w':=by
 obtain⟨a1,c1,a2,c2,rfl,hs,hg⟩:=h.open
 unfold inN at hin
 have HG:=Lib.hid hg
 obtain⟨a1',c1',ev,hnm⟩:=hs.get
 obtain⟨rfl,rfl⟩:a1=a1'∧c1=c1':=by simpa using ev
 have HN:Hid (∀i x,nms[i]?=some x→∃g o,a1=some ⟨g,o,none⟩∧w.cell? ⟨g,o+i,none⟩=some (.string ⟨x.toArray⟩)):=Lib.hid (fun i x hi=>hnm i _ (by rw [List.getElem?_map,hi];rfl))
 have HSZ:=Lib.hid hk
 have HIN:=Lib.hid hin
 have HAL:=Lib.hid hall
 have hu1:Upto [] w (w.alloc (.cells #[.int .i64 op,.slice a1 nms.length c1,.int .i64 so,.int .i64 nn,.int .i64 mm,.slice a2 l.length c2] 25)):=(Upto.refl [] w).alloc _
 have HB1:=Lib.hid (kAq w (.cells #[.int .i64 op,.slice a1 nms.length c1,.int .i64 so,.int .i64 nn,.int .i64 mm,.slice a2 l.length c2] 25))
 have HU1:=Lib.hid hu1
 have hll:=hin.2.2.1
 have hnl:=hin.1
 have hL0:(0:Int)≤l.length:=by omega
 have hL1:(l.length:Int)≤10000000:=by omega
 have hN0:(0:Int)≤nms.length:=by omega
 have hN1:(nms.length:Int)≤10000000:=by omega
 have HH:=Lib.hid (kKj op)
 obtain⟨a,b,c,habc,ha17,hb17,hc17⟩:∃a b c:Nat,hasF op=(a,b,c)∧a≤17∧b≤17∧c≤17:=by
  unfold hasF
  repeat' split
  all_goals exact⟨_,_,_,rfl,by decide,by decide,by decide⟩
 rw [habc] at HH
 simp only at HH
 obtain⟨hs0,hs1,hs2⟩:¬nms.length<a∧¬b<nms.length∧l.length=c:=by
  unfold kBq at hsb
  rw [habc] at hsb
  simp at hsb
  omega
 have ha0:(0:Int)≤a:=by omega
 have hb0:(0:Int)≤b:=by omega
 have hc0:(0:Int)≤c:=by omega
 have ha1:(a:Int)≤17:=by omega
 have hb1:(b:Int)≤17:=by omega
 have hc1:(c:Int)≤17:=by omega
 have q0:¬(nms.length:Int)<a:=by omega
 have q1:¬(b:Int)<nms.length:=by omega
 have q2:((l.length:Int) != (c:Int))=false:=by rw [hs2];simp
 clear habc hsb hall h hs hg hk hu1 hnm ev hin hs2
 go_enter Tryz.func53,Tryz.ntmps53
 go_wp2_with fail
 refine (HH.out (w.alloc (.cells #[.int .i64 op,.slice a1 nms.length c1,.int .i64 so,.int .i64 nn,.int .i64 mm,.slice a2 l.length c2] 25))).mono ?_
 rintro e w3 ⟨rfl,hu3⟩
 have HU3:=Lib.hid (HU1.out.trans_ext hu3)
 have hb3:=hu3.at HB1.out (by simp)
 have HB3:=Lib.hid hb3
 obtain⟨y0,y1,y2,y3,y4,y5⟩:=kAx hb3
 clear hu3 hb3
 go_wp2_with fail
 go_loopw [6] (fun i wr=>∃j:Nat,j≤nms.length∧i=.int .i64 j∧Hid (Upto [] w3 wr)) (fun i _=>nms.length-(intOf i).toNat)
 case atStart=>exact⟨0,by omega,rfl,Lib.hid (Upto.refl _ _)⟩
 case round =>
  clear y0 y1 y2 y3 y4 y5
  obtain⟨j,hj,rfl,HU⟩:=hrel
  have hj0:(0:Int)≤j:=by omega
  have hb:=HU.out.at HB3.out (by simp)
  have HB:=Lib.hid hb
  obtain⟨y0,y1,y2,y3,y4,y5⟩:=kAx hb
  have HW:=Lib.hid (HU3.out.trans_ext HU.out)
  rcases Nat.lt_or_ge j nms.length with hlt | hge
  ·have hltI:(j:Int)<nms.length:=by omega
   obtain⟨x,hx⟩:∃x,nms[j]?=some x:=⟨_,List.getElem?_eq_getElem hlt⟩
   have hxl:=HIN.out.2.1 x (List.mem_of_getElem? hx)
   obtain⟨g,o,rfl,c0⟩:=HN.out j x hx
   replace c0:=kAw HW.out c0
   have HC:=Lib.hid (kGz x wr (by omega))
   have hb2:kBj x=true:=List.all_eq_true.1 HAL.out x (List.mem_of_getElem? hx)
   rw [hb2] at HC
   clear hx hb hb2
   go_wp2_with fail
   refine HC.out.mono ?_
   rintro e w5 ⟨rfl,hu5⟩
   have HU5:=Lib.hid (HU.out.trans_ext hu5)
   clear hu5
   go_wp2_with fail
   go_roundw
   case rel=>first | exact⟨j+1,by omega,by go_num,HU5⟩ | exact⟨_,_,_,_,_,_,_,_,_,_,_,_,_,_,_,_,⟨j+1,by omega,by go_num,HU5⟩,rfl⟩
   case measure=>simp [intOf];omega
  ·have hgeI:¬(j:Int)<nms.length:=by omega
   clear hb q0 q1 q2 hs0 hs1 ha0 hb0 hc0 ha1 hb1 hc1 HH HAL HN
   have eop7:(op==(7:Int))=false:=by rw [beq_eq_false_iff_ne];omega
   have fop7:(op != (7:Int))=true:=by rw [bne,eop7];rfl
   have eop8:(op==(8:Int))=false:=by rw [beq_eq_false_iff_ne];omega
   have fop8:(op != (8:Int))=true:=by rw [bne,eop8];rfl
   have enn0:(nn==(0:Int))=false:=by rw [beq_eq_false_iff_ne];exact hz
   have fnn0:(nn != (0:Int))=true:=by rw [bne,enn0];rfl
   go_wp2_with fail
   go_ret
   exact⟨rfl,HW.out⟩
theorem form_hb (k:Nat) (op so mm:Int) (nms:List (List UInt8)) (l:List Nd) (hk:kBk l≤k) (hin:inN 10000000 (.mk op nms so 0 mm l)) (_hk7:k+1≤10000000) (v:Value) (w:World) (P:Nat→Prop) (h:NdV w P (.mk op nms so 0 mm l) v) (hk0:¬(op:Int)<0) (hk1:¬(17:Int)<op) (hsb:kBq op nms.length l.length=false) (hall:nms.all kBj=true) (o7:op≠7) (o8:op≠8) (o16:¬op<16) (hz:mm≠0):Calls Tryz.prog 53 #[v] w fun e w'=>e=.returned (.int .i64 ((3:Nat):Int))∧Upto [] w w':=by
 obtain⟨a1,c1,a2,c2,rfl,hs,hg⟩:=h.open
 unfold inN at hin
 have HG:=Lib.hid hg
 obtain⟨a1',c1',ev,hnm⟩:=hs.get
 obtain⟨rfl,rfl⟩:a1=a1'∧c1=c1':=by simpa using ev
 have HN:Hid (∀i x,nms[i]?=some x→∃g o,a1=some ⟨g,o,none⟩∧w.cell? ⟨g,o+i,none⟩=some (.string ⟨x.toArray⟩)):=Lib.hid (fun i x hi=>hnm i _ (by rw [List.getElem?_map,hi];rfl))
 have HSZ:=Lib.hid hk
 have HIN:=Lib.hid hin
 have HAL:=Lib.hid hall
 have hu1:Upto [] w (w.alloc (.cells #[.int .i64 op,.slice a1 nms.length c1,.int .i64 so,.int .i64 0,.int .i64 mm,.slice a2 l.length c2] 25)):=(Upto.refl [] w).alloc _
 have HB1:=Lib.hid (kAq w (.cells #[.int .i64 op,.slice a1 nms.length c1,.int .i64 so,.int .i64 0,.int .i64 mm,.slice a2 l.length c2] 25))
 have HU1:=Lib.hid hu1
 have hll:=hin.2.2.1
 have hnl:=hin.1
 have hL0:(0:Int)≤l.length:=by omega
 have hL1:(l.length:Int)≤10000000:=by omega
 have hN0:(0:Int)≤nms.length:=by omega
 have hN1:(nms.length:Int)≤10000000:=by omega
 have HH:=Lib.hid (kKj op)
 obtain⟨a,b,c,habc,ha17,hb17,hc17⟩:∃a b c:Nat,hasF op=(a,b,c)∧a≤17∧b≤17∧c≤17:=by
  unfold hasF
  repeat' split
  all_goals exact⟨_,_,_,rfl,by decide,by decide,by decide⟩
 rw [habc] at HH
 simp only at HH
 obtain⟨hs0,hs1,hs2⟩:¬nms.length<a∧¬b<nms.length∧l.length=c:=by
  unfold kBq at hsb
  rw [habc] at hsb
  simp at hsb
  omega
 have ha0:(0:Int)≤a:=by omega
 have hb0:(0:Int)≤b:=by omega
 have hc0:(0:Int)≤c:=by omega
 have ha1:(a:Int)≤17:=by omega
 have hb1:(b:Int)≤17:=by omega
 have hc1:(c:Int)≤17:=by omega
 have q0:¬(nms.length:Int)<a:=by omega
 have q1:¬(b:Int)<nms.length:=by omega
 have q2:((l.length:Int) != (c:Int))=false:=by rw [hs2];simp
 clear habc hsb hall h hs hg hk hu1 hnm ev hin hs2
 go_enter Tryz.func53,Tryz.ntmps53
 go_wp2_with fail
 refine (HH.out (w.alloc (.cells #[.int .i64 op,.slice a1 nms.length c1,.int .i64 so,.int .i64 0,.int .i64 mm,.slice a2 l.length c2] 25))).mono ?_
 rintro e w3 ⟨rfl,hu3⟩
 have HU3:=Lib.hid (HU1.out.trans_ext hu3)
 have hb3:=hu3.at HB1.out (by simp)
 have HB3:=Lib.hid hb3
 obtain⟨y0,y1,y2,y3,y4,y5⟩:=kAx hb3
 clear hu3 hb3
 go_wp2_with fail
 go_loopw [6] (fun i wr=>∃j:Nat,j≤nms.length∧i=.int .i64 j∧Hid (Upto [] w3 wr)) (fun i _=>nms.length-(intOf i).toNat)
 case atStart=>exact⟨0,by omega,rfl,Lib.hid (Upto.refl _ _)⟩
 case round =>
  clear y0 y1 y2 y3 y4 y5
  obtain⟨j,hj,rfl,HU⟩:=hrel
  have hj0:(0:Int)≤j:=by omega
  have hb:=HU.out.at HB3.out (by simp)
  have HB:=Lib.hid hb
  obtain⟨y0,y1,y2,y3,y4,y5⟩:=kAx hb
  have HW:=Lib.hid (HU3.out.trans_ext HU.out)
  rcases Nat.lt_or_ge j nms.length with hlt | hge
  ·have hltI:(j:Int)<nms.length:=by omega
   obtain⟨x,hx⟩:∃x,nms[j]?=some x:=⟨_,List.getElem?_eq_getElem hlt⟩
   have hxl:=HIN.out.2.1 x (List.mem_of_getElem? hx)
   obtain⟨g,o,rfl,c0⟩:=HN.out j x hx
   replace c0:=kAw HW.out c0
   have HC:=Lib.hid (kGz x wr (by omega))
   have hb2:kBj x=true:=List.all_eq_true.1 HAL.out x (List.mem_of_getElem? hx)
   rw [hb2] at HC
   clear hx hb hb2
   go_wp2_with fail
   refine HC.out.mono ?_
   rintro e w5 ⟨rfl,hu5⟩
   have HU5:=Lib.hid (HU.out.trans_ext hu5)
   clear hu5
   go_wp2_with fail
   go_roundw
   case rel=>first | exact⟨j+1,by omega,by go_num,HU5⟩ | exact⟨_,_,_,_,_,_,_,_,_,_,_,_,_,_,_,_,⟨j+1,by omega,by go_num,HU5⟩,rfl⟩
   case measure=>simp [intOf];omega
  ·have hgeI:¬(j:Int)<nms.length:=by omega
   clear hb q0 q1 q2 hs0 hs1 ha0 hb0 hc0 ha1 hb1 hc1 HH HAL HN
   have eop7:(op==(7:Int))=false:=by rw [beq_eq_false_iff_ne];omega
   have fop7:(op != (7:Int))=true:=by rw [bne,eop7];rfl
   have eop8:(op==(8:Int))=false:=by rw [beq_eq_false_iff_ne];omega
   have fop8:(op != (8:Int))=true:=by rw [bne,eop8];rfl
   have emm0:(mm==(0:Int))=false:=by rw [beq_eq_false_iff_ne];exact hz
   have fmm0:(mm != (0:Int))=true:=by rw [bne,emm0];rfl
   go_wp2_with fail
   go_ret
   exact⟨rfl,HW.out⟩
theorem form_oc (k:Nat) (op so:Int) (nms:List (List UInt8)) (l:List Nd) (hk:kBk l≤k) (hin:inN 10000000 (.mk op nms so 0 0 l)) (_hk7:k+1≤10000000) (v:Value) (w:World) (P:Nat→Prop) (h:NdV w P (.mk op nms so 0 0 l) v) (hk0:¬(op:Int)<0) (hk1:¬(17:Int)<op) (hsb:kBq op nms.length l.length=false) (hall:nms.all kBj=true) (o7:op≠7) (o8:op≠8) (o16:op<16) (hz:so≠0):Calls Tryz.prog 53 #[v] w fun e w'=>e=.returned (.int .i64 ((3:Nat):Int))∧Upto [] w w':=by
 obtain⟨a1,c1,a2,c2,rfl,hs,hg⟩:=h.open
 unfold inN at hin
 have HG:=Lib.hid hg
 obtain⟨a1',c1',ev,hnm⟩:=hs.get
 obtain⟨rfl,rfl⟩:a1=a1'∧c1=c1':=by simpa using ev
 have HN:Hid (∀i x,nms[i]?=some x→∃g o,a1=some ⟨g,o,none⟩∧w.cell? ⟨g,o+i,none⟩=some (.string ⟨x.toArray⟩)):=Lib.hid (fun i x hi=>hnm i _ (by rw [List.getElem?_map,hi];rfl))
 have HSZ:=Lib.hid hk
 have HIN:=Lib.hid hin
 have HAL:=Lib.hid hall
 have hu1:Upto [] w (w.alloc (.cells #[.int .i64 op,.slice a1 nms.length c1,.int .i64 so,.int .i64 0,.int .i64 0,.slice a2 l.length c2] 25)):=(Upto.refl [] w).alloc _
 have HB1:=Lib.hid (kAq w (.cells #[.int .i64 op,.slice a1 nms.length c1,.int .i64 so,.int .i64 0,.int .i64 0,.slice a2 l.length c2] 25))
 have HU1:=Lib.hid hu1
 have hll:=hin.2.2.1
 have hnl:=hin.1
 have hL0:(0:Int)≤l.length:=by omega
 have hL1:(l.length:Int)≤10000000:=by omega
 have hN0:(0:Int)≤nms.length:=by omega
 have hN1:(nms.length:Int)≤10000000:=by omega
 have HH:=Lib.hid (kKj op)
 obtain⟨a,b,c,habc,ha17,hb17,hc17⟩:∃a b c:Nat,hasF op=(a,b,c)∧a≤17∧b≤17∧c≤17:=by
  unfold hasF
  repeat' split
  all_goals exact⟨_,_,_,rfl,by decide,by decide,by decide⟩
 rw [habc] at HH
 simp only at HH
 obtain⟨hs0,hs1,hs2⟩:¬nms.length<a∧¬b<nms.length∧l.length=c:=by
  unfold kBq at hsb
  rw [habc] at hsb
  simp at hsb
  omega
 have ha0:(0:Int)≤a:=by omega
 have hb0:(0:Int)≤b:=by omega
 have hc0:(0:Int)≤c:=by omega
 have ha1:(a:Int)≤17:=by omega
 have hb1:(b:Int)≤17:=by omega
 have hc1:(c:Int)≤17:=by omega
 have q0:¬(nms.length:Int)<a:=by omega
 have q1:¬(b:Int)<nms.length:=by omega
 have q2:((l.length:Int) != (c:Int))=false:=by rw [hs2];simp
 clear habc hsb hall h hs hg hk hu1 hnm ev hin hs2
 go_enter Tryz.func53,Tryz.ntmps53
 go_wp2_with fail
 refine (HH.out (w.alloc (.cells #[.int .i64 op,.slice a1 nms.length c1,.int .i64 so,.int .i64 0,.int .i64 0,.slice a2 l.length c2] 25))).mono ?_
 rintro e w3 ⟨rfl,hu3⟩
 have HU3:=Lib.hid (HU1.out.trans_ext hu3)
 have hb3:=hu3.at HB1.out (by simp)
 have HB3:=Lib.hid hb3
 obtain⟨y0,y1,y2,y3,y4,y5⟩:=kAx hb3
 clear hu3 hb3
 go_wp2_with fail
 go_loopw [6] (fun i wr=>∃j:Nat,j≤nms.length∧i=.int .i64 j∧Hid (Upto [] w3 wr)) (fun i _=>nms.length-(intOf i).toNat)
 case atStart=>exact⟨0,by omega,rfl,Lib.hid (Upto.refl _ _)⟩
 case round =>
  clear y0 y1 y2 y3 y4 y5
  obtain⟨j,hj,rfl,HU⟩:=hrel
  have hj0:(0:Int)≤j:=by omega
  have hb:=HU.out.at HB3.out (by simp)
  have HB:=Lib.hid hb
  obtain⟨y0,y1,y2,y3,y4,y5⟩:=kAx hb
  have HW:=Lib.hid (HU3.out.trans_ext HU.out)
  rcases Nat.lt_or_ge j nms.length with hlt | hge
  ·have hltI:(j:Int)<nms.length:=by omega
   obtain⟨x,hx⟩:∃x,nms[j]?=some x:=⟨_,List.getElem?_eq_getElem hlt⟩
   have hxl:=HIN.out.2.1 x (List.mem_of_getElem? hx)
   obtain⟨g,o,rfl,c0⟩:=HN.out j x hx
   replace c0:=kAw HW.out c0
   have HC:=Lib.hid (kGz x wr (by omega))
   have hb2:kBj x=true:=List.all_eq_true.1 HAL.out x (List.mem_of_getElem? hx)
   rw [hb2] at HC
   clear hx hb hb2
   go_wp2_with fail
   refine HC.out.mono ?_
   rintro e w5 ⟨rfl,hu5⟩
   have HU5:=Lib.hid (HU.out.trans_ext hu5)
   clear hu5
   go_wp2_with fail
   go_roundw
   case rel=>first | exact⟨j+1,by omega,by go_num,HU5⟩ | exact⟨_,_,_,_,_,_,_,_,_,_,_,_,_,_,_,_,⟨j+1,by omega,by go_num,HU5⟩,rfl⟩
   case measure=>simp [intOf];omega
  ·have hgeI:¬(j:Int)<nms.length:=by omega
   clear hb q0 q1 q2 hs0 hs1 ha0 hb0 hc0 ha1 hb1 hc1 HH HAL HN
   have eop7:(op==(7:Int))=false:=by rw [beq_eq_false_iff_ne];omega
   have fop7:(op != (7:Int))=true:=by rw [bne,eop7];rfl
   have eop8:(op==(8:Int))=false:=by rw [beq_eq_false_iff_ne];omega
   have fop8:(op != (8:Int))=true:=by rw [bne,eop8];rfl
   have eso0:(so==(0:Int))=false:=by rw [beq_eq_false_iff_ne];exact hz
   have fso0:(so != (0:Int))=true:=by rw [bne,eso0];rfl
   go_wp2_with fail
   go_ret
   exact⟨rfl,HW.out⟩
theorem form_og (k:Nat) (op:Int) (nms:List (List UInt8)) (l:List Nd) (hk:kBk l≤k) (hin:inN 10000000 (.mk op nms 0 0 0 l)) (_hk7:k+1≤10000000) (v:Value) (w:World) (P:Nat→Prop) (h:NdV w P (.mk op nms 0 0 0 l) v) (hk0:¬(op:Int)<0) (hk1:¬(17:Int)<op) (hsb:kBq op nms.length l.length=false) (hall:nms.all kBj=true) (o7:op≠7) (o8:op≠8) (o16:op<16) (IH:∀(nd:Nd),kCz nd≤k→inN 10000000 nd→∀(v:Value) (w:World) (P:Nat→Prop),NdV w P nd v→Calls Tryz.prog 53 #[v] w fun e w'=>e=.returned (.int .i64 (kKk kBj nd:Nat))∧Upto [] w w'):Calls Tryz.prog 53 #[v] w fun e w'=>e=.returned (.int .i64 ((kHx kBj l:Nat):Int))∧Upto [] w w':=by
 obtain⟨a1,c1,a2,c2,rfl,hs,hg⟩:=h.open
 unfold inN at hin
 have HG:=Lib.hid hg
 obtain⟨a1',c1',ev,hnm⟩:=hs.get
 obtain⟨rfl,rfl⟩:a1=a1'∧c1=c1':=by simpa using ev
 have HN:Hid (∀i x,nms[i]?=some x→∃g o,a1=some ⟨g,o,none⟩∧w.cell? ⟨g,o+i,none⟩=some (.string ⟨x.toArray⟩)):=Lib.hid (fun i x hi=>hnm i _ (by rw [List.getElem?_map,hi];rfl))
 have HSZ:=Lib.hid hk
 have HIN:=Lib.hid hin
 have HAL:=Lib.hid hall
 have hu1:Upto [] w (w.alloc (.cells #[.int .i64 op,.slice a1 nms.length c1,.int .i64 0,.int .i64 0,.int .i64 0,.slice a2 l.length c2] 25)):=(Upto.refl [] w).alloc _
 have HB1:=Lib.hid (kAq w (.cells #[.int .i64 op,.slice a1 nms.length c1,.int .i64 0,.int .i64 0,.int .i64 0,.slice a2 l.length c2] 25))
 have HU1:=Lib.hid hu1
 have hll:=hin.2.2.1
 have hnl:=hin.1
 have hL0:(0:Int)≤l.length:=by omega
 have hL1:(l.length:Int)≤10000000:=by omega
 have hN0:(0:Int)≤nms.length:=by omega
 have hN1:(nms.length:Int)≤10000000:=by omega
 have HH:=Lib.hid (kKj op)
 obtain⟨a,b,c,habc,ha17,hb17,hc17⟩:∃a b c:Nat,hasF op=(a,b,c)∧a≤17∧b≤17∧c≤17:=by
  unfold hasF
  repeat' split
  all_goals exact⟨_,_,_,rfl,by decide,by decide,by decide⟩
 rw [habc] at HH
 simp only at HH
 obtain⟨hs0,hs1,hs2⟩:¬nms.length<a∧¬b<nms.length∧l.length=c:=by
  unfold kBq at hsb
  rw [habc] at hsb
  simp at hsb
  omega
 have ha0:(0:Int)≤a:=by omega
 have hb0:(0:Int)≤b:=by omega
 have hc0:(0:Int)≤c:=by omega
 have ha1:(a:Int)≤17:=by omega
 have hb1:(b:Int)≤17:=by omega
 have hc1:(c:Int)≤17:=by omega
 have q0:¬(nms.length:Int)<a:=by omega
 have q1:¬(b:Int)<nms.length:=by omega
 have q2:((l.length:Int) != (c:Int))=false:=by rw [hs2];simp
 clear habc hsb hall h hs hg hk hu1 hnm ev hin hs2
 go_enter Tryz.func53,Tryz.ntmps53
 go_wp2_with fail
 refine (HH.out (w.alloc (.cells #[.int .i64 op,.slice a1 nms.length c1,.int .i64 0,.int .i64 0,.int .i64 0,.slice a2 l.length c2] 25))).mono ?_
 rintro e w3 ⟨rfl,hu3⟩
 have HU3:=Lib.hid (HU1.out.trans_ext hu3)
 have hb3:=hu3.at HB1.out (by simp)
 have HB3:=Lib.hid hb3
 obtain⟨y0,y1,y2,y3,y4,y5⟩:=kAx hb3
 clear hu3 hb3
 go_wp2_with fail
 go_loopw [6] (fun i wr=>∃j:Nat,j≤nms.length∧i=.int .i64 j∧Hid (Upto [] w3 wr)) (fun i _=>nms.length-(intOf i).toNat)
 case atStart=>exact⟨0,by omega,rfl,Lib.hid (Upto.refl _ _)⟩
 case round =>
  clear y0 y1 y2 y3 y4 y5
  obtain⟨j,hj,rfl,HU⟩:=hrel
  have hj0:(0:Int)≤j:=by omega
  have hb:=HU.out.at HB3.out (by simp)
  have HB:=Lib.hid hb
  obtain⟨y0,y1,y2,y3,y4,y5⟩:=kAx hb
  have HW:=Lib.hid (HU3.out.trans_ext HU.out)
  rcases Nat.lt_or_ge j nms.length with hlt | hge
  ·have hltI:(j:Int)<nms.length:=by omega
   obtain⟨x,hx⟩:∃x,nms[j]?=some x:=⟨_,List.getElem?_eq_getElem hlt⟩
   have hxl:=HIN.out.2.1 x (List.mem_of_getElem? hx)
   obtain⟨g,o,rfl,c0⟩:=HN.out j x hx
   replace c0:=kAw HW.out c0
   have HC:=Lib.hid (kGz x wr (by omega))
   have hb2:kBj x=true:=List.all_eq_true.1 HAL.out x (List.mem_of_getElem? hx)
   rw [hb2] at HC
   clear hx hb hb2
   go_wp2_with fail
   refine HC.out.mono ?_
   rintro e w5 ⟨rfl,hu5⟩
   have HU5:=Lib.hid (HU.out.trans_ext hu5)
   clear hu5
   go_wp2_with fail
   go_roundw
   case rel=>first | exact⟨j+1,by omega,by go_num,HU5⟩ | exact⟨_,_,_,_,_,_,_,_,_,_,_,_,_,_,_,_,⟨j+1,by omega,by go_num,HU5⟩,rfl⟩
   case measure=>simp [intOf];omega
  ·have hgeI:¬(j:Int)<nms.length:=by omega
   clear hb q0 q1 q2 hs0 hs1 ha0 hb0 hc0 ha1 hb1 hc1 HH HAL HN
   have eop7:(op==(7:Int))=false:=by rw [beq_eq_false_iff_ne];omega
   have fop7:(op != (7:Int))=true:=by rw [bne,eop7];rfl
   have eop8:(op==(8:Int))=false:=by rw [beq_eq_false_iff_ne];omega
   have fop8:(op != (8:Int))=true:=by rw [bne,eop8];rfl
   go_wp2_with fail
   go_loopw [7] (fun i wx=>∃m:Nat,m≤l.length∧i=.int .i64 m∧Hid (kHx kBj (l.drop m)=kHx kBj l)∧Hid (Upto [] wr wx)) (fun i _=>l.length-(intOf i).toNat)
   case atStart=>exact⟨0,by omega,rfl,Lib.hid rfl,Lib.hid (Upto.refl _ _)⟩
   case round =>
    clear y0 y1 y2 y3 y4 y5
    obtain⟨m,hm,rfl,HB9,HV⟩:=hrel
    have hm0:(0:Int)≤m:=by omega
    have hb:=HV.out.at HB.out (by simp)
    have y5:=kAz hb 5
    simp only [List.getElem?_toArray,List.getElem?_cons_zero,List.getElem?_cons_succ] at y5
    have HW2:=Lib.hid (HW.out.trans_ext HV.out)
    rcases Nat.lt_or_ge m l.length with hlt | hge2
    ·have hltI:(m:Int)<l.length:=by omega
     obtain⟨x,hx⟩:∃x,l[m]?=some x:=⟨_,List.getElem?_eq_getElem hlt⟩
     have HDR:Hid (l.drop m=x::l.drop (m+1)):=Lib.hid (by
      obtain⟨hi,h3⟩:=List.getElem?_eq_some_iff.1 hx
      rw [List.drop_eq_getElem_cons hi,h3])
     obtain⟨g,o,xo,xn1,xn2,xn3,xs,xm,xq,xl1,xl2,xl3,rfl,d0,d1,d2,d3,d4,d5,hnx⟩:=HG.out m x hx
     replace d0:=kAw HW2.out d0
     replace d1:=kAw HW2.out d1
     replace d2:=kAw HW2.out d2
     replace d3:=kAw HW2.out d3
     replace d4:=kAw HW2.out d4
     replace d5:=kAw HW2.out d5
     have HC:=Lib.hid (IH x (by have:=HSZ.out;have:=kSx (List.mem_of_getElem? hx);omega) (insN_mem HIN.out.2.2.2 (List.mem_of_getElem? hx)) _ wr P (hnx.ext HW2.out))
     by_cases hz:kKk kBj x=0
     ·have HA2:Hid (kHx kBj (l.drop (m+1))=kHx kBj l):=Lib.hid (by
       rw [←HB9.out,HDR.out]
       conv=>rhs;unfold kHx
       rw [hz]
       rfl)
      rw [hz] at HC
      clear hx hb hz hnx
      go_wp2_with fail
      refine HC.out.mono ?_
      rintro e w5 ⟨rfl,hu5⟩
      have HU5:=Lib.hid (HV.out.trans_ext hu5)
      clear hu5
      go_wp2_with fail
      go_roundw
      case rel=>first | exact⟨m+1,by omega,by go_num,HA2,HU5⟩ | exact⟨_,_,_,_,_,_,_,_,_,_,_,_,_,_,_,_,_,_,_,⟨m+1,by omega,by go_num,HA2,HU5⟩,rfl⟩
      case measure=>simp [intOf];omega
     ·have HF:Hid (kHx kBj l=kKk kBj x):=Lib.hid (by
       rw [←HB9.out,HDR.out]
       unfold kHx
       rw [if_pos hz])
      generalize hfx:kKk kBj x=fx at *
      have ez:((fx:Int)==0)=false:=by rw [beq_eq_false_iff_ne];omega
      have ez2:((fx:Int) != 0)=true:=by rw [bne,ez];rfl
      clear hx hb hz hnx hfx
      go_wp2_with fail
      refine HC.out.mono ?_
      rintro e w5 ⟨rfl,hu5⟩
      have HU5:=Lib.hid (HW2.out.trans_ext hu5)
      clear hu5
      go_wp2_with fail
      go_ret
      rw [HF.out]
      exact⟨rfl,HU5.out⟩
    ·have hgeJ:¬(m:Int)<l.length:=by omega
     have HF:Hid (kHx kBj l=0):=Lib.hid (by
      rw [←HB9.out,List.drop_of_length_le (by omega)]
      rfl)
     clear hb
     go_wp2_with fail
     go_ret
     rw [HF.out]
     exact⟨rfl,HW2.out⟩
theorem form_hc (k:Nat) (op so:Int) (nms:List (List UInt8)) (l:List Nd) (hk:kBk l≤k) (hin:inN 10000000 (.mk op nms so 0 0 l)) (_hk7:k+1≤10000000) (v:Value) (w:World) (P:Nat→Prop) (h:NdV w P (.mk op nms so 0 0 l) v) (hk0:¬(op:Int)<0) (hk1:¬(17:Int)<op) (hsb:kBq op nms.length l.length=false) (hall:nms.all kBj=true) (o7:op≠7) (o8:op≠8) (o16:¬op<16) (hz:so<0):Calls Tryz.prog 53 #[v] w fun e w'=>e=.returned (.int .i64 ((2:Nat):Int))∧Upto [] w w':=by
 obtain⟨a1,c1,a2,c2,rfl,hs,hg⟩:=h.open
 unfold inN at hin
 have HG:=Lib.hid hg
 obtain⟨a1',c1',ev,hnm⟩:=hs.get
 obtain⟨rfl,rfl⟩:a1=a1'∧c1=c1':=by simpa using ev
 have HN:Hid (∀i x,nms[i]?=some x→∃g o,a1=some ⟨g,o,none⟩∧w.cell? ⟨g,o+i,none⟩=some (.string ⟨x.toArray⟩)):=Lib.hid (fun i x hi=>hnm i _ (by rw [List.getElem?_map,hi];rfl))
 have HSZ:=Lib.hid hk
 have HIN:=Lib.hid hin
 have HAL:=Lib.hid hall
 have hu1:Upto [] w (w.alloc (.cells #[.int .i64 op,.slice a1 nms.length c1,.int .i64 so,.int .i64 0,.int .i64 0,.slice a2 l.length c2] 25)):=(Upto.refl [] w).alloc _
 have HB1:=Lib.hid (kAq w (.cells #[.int .i64 op,.slice a1 nms.length c1,.int .i64 so,.int .i64 0,.int .i64 0,.slice a2 l.length c2] 25))
 have HU1:=Lib.hid hu1
 have hll:=hin.2.2.1
 have hnl:=hin.1
 have hL0:(0:Int)≤l.length:=by omega
 have hL1:(l.length:Int)≤10000000:=by omega
 have hN0:(0:Int)≤nms.length:=by omega
 have hN1:(nms.length:Int)≤10000000:=by omega
 have HH:=Lib.hid (kKj op)
 obtain⟨a,b,c,habc,ha17,hb17,hc17⟩:∃a b c:Nat,hasF op=(a,b,c)∧a≤17∧b≤17∧c≤17:=by
  unfold hasF
  repeat' split
  all_goals exact⟨_,_,_,rfl,by decide,by decide,by decide⟩
 rw [habc] at HH
 simp only at HH
 obtain⟨hs0,hs1,hs2⟩:¬nms.length<a∧¬b<nms.length∧l.length=c:=by
  unfold kBq at hsb
  rw [habc] at hsb
  simp at hsb
  omega
 have ha0:(0:Int)≤a:=by omega
 have hb0:(0:Int)≤b:=by omega
 have hc0:(0:Int)≤c:=by omega
 have ha1:(a:Int)≤17:=by omega
 have hb1:(b:Int)≤17:=by omega
 have hc1:(c:Int)≤17:=by omega
 have q0:¬(nms.length:Int)<a:=by omega
 have q1:¬(b:Int)<nms.length:=by omega
 have q2:((l.length:Int) != (c:Int))=false:=by rw [hs2];simp
 clear habc hsb hall h hs hg hk hu1 hnm ev hin hs2
 go_enter Tryz.func53,Tryz.ntmps53
 go_wp2_with fail
 refine (HH.out (w.alloc (.cells #[.int .i64 op,.slice a1 nms.length c1,.int .i64 so,.int .i64 0,.int .i64 0,.slice a2 l.length c2] 25))).mono ?_
 rintro e w3 ⟨rfl,hu3⟩
 have HU3:=Lib.hid (HU1.out.trans_ext hu3)
 have hb3:=hu3.at HB1.out (by simp)
 have HB3:=Lib.hid hb3
 obtain⟨y0,y1,y2,y3,y4,y5⟩:=kAx hb3
 clear hu3 hb3
 go_wp2_with fail
 go_loopw [6] (fun i wr=>∃j:Nat,j≤nms.length∧i=.int .i64 j∧Hid (Upto [] w3 wr)) (fun i _=>nms.length-(intOf i).toNat)
 case atStart=>exact⟨0,by omega,rfl,Lib.hid (Upto.refl _ _)⟩
 case round =>
  clear y0 y1 y2 y3 y4 y5
  obtain⟨j,hj,rfl,HU⟩:=hrel
  have hj0:(0:Int)≤j:=by omega
  have hb:=HU.out.at HB3.out (by simp)
  have HB:=Lib.hid hb
  obtain⟨y0,y1,y2,y3,y4,y5⟩:=kAx hb
  have HW:=Lib.hid (HU3.out.trans_ext HU.out)
  rcases Nat.lt_or_ge j nms.length with hlt | hge
  ·have hltI:(j:Int)<nms.length:=by omega
   obtain⟨x,hx⟩:∃x,nms[j]?=some x:=⟨_,List.getElem?_eq_getElem hlt⟩
   have hxl:=HIN.out.2.1 x (List.mem_of_getElem? hx)
   obtain⟨g,o,rfl,c0⟩:=HN.out j x hx
   replace c0:=kAw HW.out c0
   have HC:=Lib.hid (kGz x wr (by omega))
   have hb2:kBj x=true:=List.all_eq_true.1 HAL.out x (List.mem_of_getElem? hx)
   rw [hb2] at HC
   clear hx hb hb2
   go_wp2_with fail
   refine HC.out.mono ?_
   rintro e w5 ⟨rfl,hu5⟩
   have HU5:=Lib.hid (HU.out.trans_ext hu5)
   clear hu5
   go_wp2_with fail
   go_roundw
   case rel=>first | exact⟨j+1,by omega,by go_num,HU5⟩ | exact⟨_,_,_,_,_,_,_,_,_,_,_,_,_,_,_,_,⟨j+1,by omega,by go_num,HU5⟩,rfl⟩
   case measure=>simp [intOf];omega
  ·have hgeI:¬(j:Int)<nms.length:=by omega
   clear hb q0 q1 q2 hs0 hs1 ha0 hb0 hc0 ha1 hb1 hc1 HH HAL HN
   have eop7:(op==(7:Int))=false:=by rw [beq_eq_false_iff_ne];omega
   have fop7:(op != (7:Int))=true:=by rw [bne,eop7];rfl
   have eop8:(op==(8:Int))=false:=by rw [beq_eq_false_iff_ne];omega
   have fop8:(op != (8:Int))=true:=by rw [bne,eop8];rfl
   go_wp2_with fail
   go_ret
   exact⟨rfl,HW.out⟩
theorem form_hd (k:Nat) (op so:Int) (nms:List (List UInt8)) (l:List Nd) (hk:kBk l≤k) (hin:inN 10000000 (.mk op nms so 0 0 l)) (_hk7:k+1≤10000000) (v:Value) (w:World) (P:Nat→Prop) (h:NdV w P (.mk op nms so 0 0 l) v) (hk0:¬(op:Int)<0) (hk1:¬(17:Int)<op) (hsb:kBq op nms.length l.length=false) (hall:nms.all kBj=true) (o7:op≠7) (o8:op≠8) (o16:¬op<16) (h1:¬so<0) (hz:3<so):Calls Tryz.prog 53 #[v] w fun e w'=>e=.returned (.int .i64 ((2:Nat):Int))∧Upto [] w w':=by
 obtain⟨a1,c1,a2,c2,rfl,hs,hg⟩:=h.open
 unfold inN at hin
 have HG:=Lib.hid hg
 obtain⟨a1',c1',ev,hnm⟩:=hs.get
 obtain⟨rfl,rfl⟩:a1=a1'∧c1=c1':=by simpa using ev
 have HN:Hid (∀i x,nms[i]?=some x→∃g o,a1=some ⟨g,o,none⟩∧w.cell? ⟨g,o+i,none⟩=some (.string ⟨x.toArray⟩)):=Lib.hid (fun i x hi=>hnm i _ (by rw [List.getElem?_map,hi];rfl))
 have HSZ:=Lib.hid hk
 have HIN:=Lib.hid hin
 have HAL:=Lib.hid hall
 have hu1:Upto [] w (w.alloc (.cells #[.int .i64 op,.slice a1 nms.length c1,.int .i64 so,.int .i64 0,.int .i64 0,.slice a2 l.length c2] 25)):=(Upto.refl [] w).alloc _
 have HB1:=Lib.hid (kAq w (.cells #[.int .i64 op,.slice a1 nms.length c1,.int .i64 so,.int .i64 0,.int .i64 0,.slice a2 l.length c2] 25))
 have HU1:=Lib.hid hu1
 have hll:=hin.2.2.1
 have hnl:=hin.1
 have hL0:(0:Int)≤l.length:=by omega
 have hL1:(l.length:Int)≤10000000:=by omega
 have hN0:(0:Int)≤nms.length:=by omega
 have hN1:(nms.length:Int)≤10000000:=by omega
 have HH:=Lib.hid (kKj op)
 obtain⟨a,b,c,habc,ha17,hb17,hc17⟩:∃a b c:Nat,hasF op=(a,b,c)∧a≤17∧b≤17∧c≤17:=by
  unfold hasF
  repeat' split
  all_goals exact⟨_,_,_,rfl,by decide,by decide,by decide⟩
 rw [habc] at HH
 simp only at HH
 obtain⟨hs0,hs1,hs2⟩:¬nms.length<a∧¬b<nms.length∧l.length=c:=by
  unfold kBq at hsb
  rw [habc] at hsb
  simp at hsb
  omega
 have ha0:(0:Int)≤a:=by omega
 have hb0:(0:Int)≤b:=by omega
 have hc0:(0:Int)≤c:=by omega
 have ha1:(a:Int)≤17:=by omega
 have hb1:(b:Int)≤17:=by omega
 have hc1:(c:Int)≤17:=by omega
 have q0:¬(nms.length:Int)<a:=by omega
 have q1:¬(b:Int)<nms.length:=by omega
 have q2:((l.length:Int) != (c:Int))=false:=by rw [hs2];simp
 clear habc hsb hall h hs hg hk hu1 hnm ev hin hs2
 go_enter Tryz.func53,Tryz.ntmps53
 go_wp2_with fail
 refine (HH.out (w.alloc (.cells #[.int .i64 op,.slice a1 nms.length c1,.int .i64 so,.int .i64 0,.int .i64 0,.slice a2 l.length c2] 25))).mono ?_
 rintro e w3 ⟨rfl,hu3⟩
 have HU3:=Lib.hid (HU1.out.trans_ext hu3)
 have hb3:=hu3.at HB1.out (by simp)
 have HB3:=Lib.hid hb3
 obtain⟨y0,y1,y2,y3,y4,y5⟩:=kAx hb3
 clear hu3 hb3
 go_wp2_with fail
 go_loopw [6] (fun i wr=>∃j:Nat,j≤nms.length∧i=.int .i64 j∧Hid (Upto [] w3 wr)) (fun i _=>nms.length-(intOf i).toNat)
 case atStart=>exact⟨0,by omega,rfl,Lib.hid (Upto.refl _ _)⟩
 case round =>
  clear y0 y1 y2 y3 y4 y5
  obtain⟨j,hj,rfl,HU⟩:=hrel
  have hj0:(0:Int)≤j:=by omega
  have hb:=HU.out.at HB3.out (by simp)
  have HB:=Lib.hid hb
  obtain⟨y0,y1,y2,y3,y4,y5⟩:=kAx hb
  have HW:=Lib.hid (HU3.out.trans_ext HU.out)
  rcases Nat.lt_or_ge j nms.length with hlt | hge
  ·have hltI:(j:Int)<nms.length:=by omega
   obtain⟨x,hx⟩:∃x,nms[j]?=some x:=⟨_,List.getElem?_eq_getElem hlt⟩
   have hxl:=HIN.out.2.1 x (List.mem_of_getElem? hx)
   obtain⟨g,o,rfl,c0⟩:=HN.out j x hx
   replace c0:=kAw HW.out c0
   have HC:=Lib.hid (kGz x wr (by omega))
   have hb2:kBj x=true:=List.all_eq_true.1 HAL.out x (List.mem_of_getElem? hx)
   rw [hb2] at HC
   clear hx hb hb2
   go_wp2_with fail
   refine HC.out.mono ?_
   rintro e w5 ⟨rfl,hu5⟩
   have HU5:=Lib.hid (HU.out.trans_ext hu5)
   clear hu5
   go_wp2_with fail
   go_roundw
   case rel=>first | exact⟨j+1,by omega,by go_num,HU5⟩ | exact⟨_,_,_,_,_,_,_,_,_,_,_,_,_,_,_,_,⟨j+1,by omega,by go_num,HU5⟩,rfl⟩
   case measure=>simp [intOf];omega
  ·have hgeI:¬(j:Int)<nms.length:=by omega
   clear hb q0 q1 q2 hs0 hs1 ha0 hb0 hc0 ha1 hb1 hc1 HH HAL HN
   have eop7:(op==(7:Int))=false:=by rw [beq_eq_false_iff_ne];omega
   have fop7:(op != (7:Int))=true:=by rw [bne,eop7];rfl
   have eop8:(op==(8:Int))=false:=by rw [beq_eq_false_iff_ne];omega
   have fop8:(op != (8:Int))=true:=by rw [bne,eop8];rfl
   go_wp2_with fail
   go_ret
   exact⟨rfl,HW.out⟩
theorem form_hg (k:Nat) (op so:Int) (nms:List (List UInt8)) (l:List Nd) (hk:kBk l≤k) (hin:inN 10000000 (.mk op nms so 0 0 l)) (_hk7:k+1≤10000000) (v:Value) (w:World) (P:Nat→Prop) (h:NdV w P (.mk op nms so 0 0 l) v) (hk0:¬(op:Int)<0) (hk1:¬(17:Int)<op) (hsb:kBq op nms.length l.length=false) (hall:nms.all kBj=true) (o7:op≠7) (o8:op≠8) (o16:¬op<16) (h1:¬so<0) (h2:¬3<so) (IH:∀(nd:Nd),kCz nd≤k→inN 10000000 nd→∀(v:Value) (w:World) (P:Nat→Prop),NdV w P nd v→Calls Tryz.prog 53 #[v] w fun e w'=>e=.returned (.int .i64 (kKk kBj nd:Nat))∧Upto [] w w'):Calls Tryz.prog 53 #[v] w fun e w'=>e=.returned (.int .i64 ((kHx kBj l:Nat):Int))∧Upto [] w w':=by
 obtain⟨a1,c1,a2,c2,rfl,hs,hg⟩:=h.open
 unfold inN at hin
 have HG:=Lib.hid hg
 obtain⟨a1',c1',ev,hnm⟩:=hs.get
 obtain⟨rfl,rfl⟩:a1=a1'∧c1=c1':=by simpa using ev
 have HN:Hid (∀i x,nms[i]?=some x→∃g o,a1=some ⟨g,o,none⟩∧w.cell? ⟨g,o+i,none⟩=some (.string ⟨x.toArray⟩)):=Lib.hid (fun i x hi=>hnm i _ (by rw [List.getElem?_map,hi];rfl))
 have HSZ:=Lib.hid hk
 have HIN:=Lib.hid hin
 have HAL:=Lib.hid hall
 have hu1:Upto [] w (w.alloc (.cells #[.int .i64 op,.slice a1 nms.length c1,.int .i64 so,.int .i64 0,.int .i64 0,.slice a2 l.length c2] 25)):=(Upto.refl [] w).alloc _
 have HB1:=Lib.hid (kAq w (.cells #[.int .i64 op,.slice a1 nms.length c1,.int .i64 so,.int .i64 0,.int .i64 0,.slice a2 l.length c2] 25))
 have HU1:=Lib.hid hu1
 have hll:=hin.2.2.1
 have hnl:=hin.1
 have hL0:(0:Int)≤l.length:=by omega
 have hL1:(l.length:Int)≤10000000:=by omega
 have hN0:(0:Int)≤nms.length:=by omega
 have hN1:(nms.length:Int)≤10000000:=by omega
 have HH:=Lib.hid (kKj op)
 obtain⟨a,b,c,habc,ha17,hb17,hc17⟩:∃a b c:Nat,hasF op=(a,b,c)∧a≤17∧b≤17∧c≤17:=by
  unfold hasF
  repeat' split
  all_goals exact⟨_,_,_,rfl,by decide,by decide,by decide⟩
 rw [habc] at HH
 simp only at HH
 obtain⟨hs0,hs1,hs2⟩:¬nms.length<a∧¬b<nms.length∧l.length=c:=by
  unfold kBq at hsb
  rw [habc] at hsb
  simp at hsb
  omega
 have ha0:(0:Int)≤a:=by omega
 have hb0:(0:Int)≤b:=by omega
 have hc0:(0:Int)≤c:=by omega
 have ha1:(a:Int)≤17:=by omega
 have hb1:(b:Int)≤17:=by omega
 have hc1:(c:Int)≤17:=by omega
 have q0:¬(nms.length:Int)<a:=by omega
 have q1:¬(b:Int)<nms.length:=by omega
 have q2:((l.length:Int) != (c:Int))=false:=by rw [hs2];simp
 clear habc hsb hall h hs hg hk hu1 hnm ev hin hs2
 go_enter Tryz.func53,Tryz.ntmps53
 go_wp2_with fail
 refine (HH.out (w.alloc (.cells #[.int .i64 op,.slice a1 nms.length c1,.int .i64 so,.int .i64 0,.int .i64 0,.slice a2 l.length c2] 25))).mono ?_
 rintro e w3 ⟨rfl,hu3⟩
 have HU3:=Lib.hid (HU1.out.trans_ext hu3)
 have hb3:=hu3.at HB1.out (by simp)
 have HB3:=Lib.hid hb3
 obtain⟨y0,y1,y2,y3,y4,y5⟩:=kAx hb3
 clear hu3 hb3
 go_wp2_with fail
 go_loopw [6] (fun i wr=>∃j:Nat,j≤nms.length∧i=.int .i64 j∧Hid (Upto [] w3 wr)) (fun i _=>nms.length-(intOf i).toNat)
 case atStart=>exact⟨0,by omega,rfl,Lib.hid (Upto.refl _ _)⟩
 case round =>
  clear y0 y1 y2 y3 y4 y5
  obtain⟨j,hj,rfl,HU⟩:=hrel
  have hj0:(0:Int)≤j:=by omega
  have hb:=HU.out.at HB3.out (by simp)
  have HB:=Lib.hid hb
  obtain⟨y0,y1,y2,y3,y4,y5⟩:=kAx hb
  have HW:=Lib.hid (HU3.out.trans_ext HU.out)
  rcases Nat.lt_or_ge j nms.length with hlt | hge
  ·have hltI:(j:Int)<nms.length:=by omega
   obtain⟨x,hx⟩:∃x,nms[j]?=some x:=⟨_,List.getElem?_eq_getElem hlt⟩
   have hxl:=HIN.out.2.1 x (List.mem_of_getElem? hx)
   obtain⟨g,o,rfl,c0⟩:=HN.out j x hx
   replace c0:=kAw HW.out c0
   have HC:=Lib.hid (kGz x wr (by omega))
   have hb2:kBj x=true:=List.all_eq_true.1 HAL.out x (List.mem_of_getElem? hx)
   rw [hb2] at HC
   clear hx hb hb2
   go_wp2_with fail
   refine HC.out.mono ?_
   rintro e w5 ⟨rfl,hu5⟩
   have HU5:=Lib.hid (HU.out.trans_ext hu5)
   clear hu5
   go_wp2_with fail
   go_roundw
   case rel=>first | exact⟨j+1,by omega,by go_num,HU5⟩ | exact⟨_,_,_,_,_,_,_,_,_,_,_,_,_,_,_,_,⟨j+1,by omega,by go_num,HU5⟩,rfl⟩
   case measure=>simp [intOf];omega
  ·have hgeI:¬(j:Int)<nms.length:=by omega
   clear hb q0 q1 q2 hs0 hs1 ha0 hb0 hc0 ha1 hb1 hc1 HH HAL HN
   have eop7:(op==(7:Int))=false:=by rw [beq_eq_false_iff_ne];omega
   have fop7:(op != (7:Int))=true:=by rw [bne,eop7];rfl
   have eop8:(op==(8:Int))=false:=by rw [beq_eq_false_iff_ne];omega
   have fop8:(op != (8:Int))=true:=by rw [bne,eop8];rfl
   go_wp2_with fail
   go_loopw [7] (fun i wx=>∃m:Nat,m≤l.length∧i=.int .i64 m∧Hid (kHx kBj (l.drop m)=kHx kBj l)∧Hid (Upto [] wr wx)) (fun i _=>l.length-(intOf i).toNat)
   case atStart=>exact⟨0,by omega,rfl,Lib.hid rfl,Lib.hid (Upto.refl _ _)⟩
   case round =>
    clear y0 y1 y2 y3 y4 y5
    obtain⟨m,hm,rfl,HB9,HV⟩:=hrel
    have hm0:(0:Int)≤m:=by omega
    have hb:=HV.out.at HB.out (by simp)
    have y5:=kAz hb 5
    simp only [List.getElem?_toArray,List.getElem?_cons_zero,List.getElem?_cons_succ] at y5
    have HW2:=Lib.hid (HW.out.trans_ext HV.out)
    rcases Nat.lt_or_ge m l.length with hlt | hge2
    ·have hltI:(m:Int)<l.length:=by omega
     obtain⟨x,hx⟩:∃x,l[m]?=some x:=⟨_,List.getElem?_eq_getElem hlt⟩
     have HDR:Hid (l.drop m=x::l.drop (m+1)):=Lib.hid (by
      obtain⟨hi,h3⟩:=List.getElem?_eq_some_iff.1 hx
      rw [List.drop_eq_getElem_cons hi,h3])
     obtain⟨g,o,xo,xn1,xn2,xn3,xs,xm,xq,xl1,xl2,xl3,rfl,d0,d1,d2,d3,d4,d5,hnx⟩:=HG.out m x hx
     replace d0:=kAw HW2.out d0
     replace d1:=kAw HW2.out d1
     replace d2:=kAw HW2.out d2
     replace d3:=kAw HW2.out d3
     replace d4:=kAw HW2.out d4
     replace d5:=kAw HW2.out d5
     have HC:=Lib.hid (IH x (by have:=HSZ.out;have:=kSx (List.mem_of_getElem? hx);omega) (insN_mem HIN.out.2.2.2 (List.mem_of_getElem? hx)) _ wr P (hnx.ext HW2.out))
     by_cases hz:kKk kBj x=0
     ·have HA2:Hid (kHx kBj (l.drop (m+1))=kHx kBj l):=Lib.hid (by
       rw [←HB9.out,HDR.out]
       conv=>rhs;unfold kHx
       rw [hz]
       rfl)
      rw [hz] at HC
      clear hx hb hz hnx
      go_wp2_with fail
      refine HC.out.mono ?_
      rintro e w5 ⟨rfl,hu5⟩
      have HU5:=Lib.hid (HV.out.trans_ext hu5)
      clear hu5
      go_wp2_with fail
      go_roundw
      case rel=>first | exact⟨m+1,by omega,by go_num,HA2,HU5⟩ | exact⟨_,_,_,_,_,_,_,_,_,_,_,_,_,_,_,_,_,_,_,⟨m+1,by omega,by go_num,HA2,HU5⟩,rfl⟩
      case measure=>simp [intOf];omega
     ·have HF:Hid (kHx kBj l=kKk kBj x):=Lib.hid (by
       rw [←HB9.out,HDR.out]
       unfold kHx
       rw [if_pos hz])
      generalize hfx:kKk kBj x=fx at *
      have ez:((fx:Int)==0)=false:=by rw [beq_eq_false_iff_ne];omega
      have ez2:((fx:Int) != 0)=true:=by rw [bne,ez];rfl
      clear hx hb hz hnx hfx
      go_wp2_with fail
      refine HC.out.mono ?_
      rintro e w5 ⟨rfl,hu5⟩
      have HU5:=Lib.hid (HW2.out.trans_ext hu5)
      clear hu5
      go_wp2_with fail
      go_ret
      rw [HF.out]
      exact⟨rfl,HU5.out⟩
    ·have hgeJ:¬(m:Int)<l.length:=by omega
     have HF:Hid (kHx kBj l=0):=Lib.hid (by
      rw [←HB9.out,List.drop_of_length_le (by omega)]
      rfl)
     clear hb
     go_wp2_with fail
     go_ret
     rw [HF.out]
     exact⟨rfl,HW2.out⟩
theorem form_calls:∀(k:Nat) (nd:Nd),kCz nd≤k→inN 10000000 nd→k≤10000000→∀(v:Value) (w:World) (P:Nat→Prop),NdV w P nd v→Calls Tryz.prog 53 #[v] w fun e w'=>e=.returned (.int .i64 (kKk kBj nd:Nat))∧Upto [] w w'
 | 0,nd,hk,_,_,_,_,_,_=>by have:=kJx nd;omega
 | k+1,.mk op nms so nn mm l,hk,hin,hk7,v,w,P,h=>by
  have hsz:kBk l≤k:=by simp only [kCz] at hk;omega
  have IH:∀(nd:Nd),kCz nd≤k→inN 10000000 nd→∀(v:Value) (w:World) (P:Nat→Prop),NdV w P nd v→Calls Tryz.prog 53 #[v] w fun e w'=>e=.returned (.int .i64 (kKk kBj nd:Nat))∧Upto [] w w':=fun nd h1 h2=>form_calls k nd h1 h2 (by omega)
  by_cases hbad:kSw op=true∨kBq op nms.length l.length=true∨nms.all kBj=false
  ·exact form_bad k op so nn mm nms l hk hin hk7 v w P h hbad
  obtain⟨b1,b2,b3⟩:kSw op=false∧kBq op nms.length l.length=false∧nms.all kBj=true:=by
   refine⟨?_,?_,?_⟩
   ·cases e:kSw op with
    | false=>rfl
    | true=>exact absurd (Or.inl e) hbad
   ·cases e:kBq op nms.length l.length with
    | false=>rfl
    | true=>exact absurd (Or.inr (Or.inl e)) hbad
   ·cases e:nms.all kBj with
    | true=>rfl
    | false=>exact absurd (Or.inr (Or.inr e)) hbad
  clear hbad
  obtain⟨g0,g17⟩:¬op<0∧¬17<op:=by
   have h:=b1
   unfold kSw at h
   simp at h
   omega
  have HT:∀n:Nat,(if kGj op so nn mm then 3 else if kGw op so nn mm then 2 else kHx kBj l)=n→kKk kBj (.mk op nms so nn mm l)=n:=fun n hn=>by
   unfold kKk
   rw [if_neg (by rw [b1];decide),if_neg (by rw [b2];decide),if_neg (by rw [b3];decide)]
   exact hn
  by_cases c7:op=7
  ·subst c7
   by_cases t1:mm≠0
   ·rw [HT 3 (by rw [if_pos (by simp [kGj, *])])]
    exact form_7a k so nn mm nms l hsz hin hk7 v w P h (by omega) (by omega) b2 b3 t1
   obtain rfl:mm=0:=Decidable.not_not.1 t1
   by_cases t2:so≠0
   ·rw [HT 3 (by rw [if_pos (by simp [kGj, *])])]
    exact form_7b k so nn nms l hsz hin hk7 v w P h (by omega) (by omega) b2 b3 t2
   obtain rfl:so=0:=Decidable.not_not.1 t2
   by_cases t3:nn<0
   ·rw [HT 2 (by rw [if_neg (by simp [kGj, *]),if_pos (by simp [kGw, *])])]
    exact form_7c k nn nms l hsz hin hk7 v w P h (by omega) (by omega) b2 b3 t3
   by_cases t4:7<nn
   ·rw [HT 2 (by rw [if_neg (by simp [kGj, *]),if_pos (by simp [kGw, *])])]
    exact form_7d k nn nms l hsz hin hk7 v w P h (by omega) (by omega) b2 b3 t3 t4
   rw [HT (kHx kBj l) (by rw [if_neg (by simp [kGj, *]),if_neg (by simp [kGw, *])])]
   exact form_7g k nn nms l hsz hin hk7 v w P h (by omega) (by omega) b2 b3 t3 t4 IH
  by_cases c8:op=8
  ·subst c8
   by_cases t2:so≠0
   ·rw [HT 3 (by rw [if_pos (by simp [kGj, *])])]
    exact form_8a k so nn mm nms l hsz hin hk7 v w P h (by omega) (by omega) b2 b3 t2
   obtain rfl:so=0:=Decidable.not_not.1 t2
   by_cases t3:mm<1
   ·rw [HT 2 (by rw [if_neg (by simp [kGj, *]),if_pos (by simp [kGw, *])])]
    exact form_8b k nn mm nms l hsz hin hk7 v w P h (by omega) (by omega) b2 b3 t3
   by_cases t4:64<mm
   ·rw [HT 2 (by rw [if_neg (by simp [kGj, *]),if_pos (by simp [kGw, *])])]
    exact form_8c k nn mm nms l hsz hin hk7 v w P h (by omega) (by omega) b2 b3 t3 t4
   by_cases t5:nn<0
   ·rw [HT 2 (by rw [if_neg (by simp [kGj, *]),if_pos (by simp [kGw, *])])]
    exact form_8d k nn mm nms l hsz hin hk7 v w P h (by omega) (by omega) b2 b3 t3 t4 t5
   by_cases t6:mm≤nn
   ·rw [HT 2 (by rw [if_neg (by simp [kGj, *]),if_pos (by simp [kGw, *])])]
    exact form_8e k nn mm nms l hsz hin hk7 v w P h (by omega) (by omega) b2 b3 t3 t4 t5 t6
   rw [HT (kHx kBj l) (by rw [if_neg (by simp [kGj, *]),if_neg (by simp [kGw, *])])]
   exact form_8g k nn mm nms l hsz hin hk7 v w P h (by omega) (by omega) b2 b3 t3 t4 t5 t6 IH
  by_cases c16:op<16
  ·by_cases t1:nn≠0
   ·rw [HT 3 (by rw [if_pos (by simp [kGj, *])])]
    exact form_oa k op so nn mm nms l hsz hin hk7 v w P h (by omega) (by omega) b2 b3 c7 c8 c16 t1
   obtain rfl:nn=0:=Decidable.not_not.1 t1
   by_cases t2:mm≠0
   ·rw [HT 3 (by rw [if_pos (by simp [kGj, *])])]
    exact form_ob k op so mm nms l hsz hin hk7 v w P h (by omega) (by omega) b2 b3 c7 c8 c16 t2
   obtain rfl:mm=0:=Decidable.not_not.1 t2
   by_cases t3:so≠0
   ·rw [HT 3 (by rw [if_pos (by simp [kGj, *])])]
    exact form_oc k op so nms l hsz hin hk7 v w P h (by omega) (by omega) b2 b3 c7 c8 c16 t3
   obtain rfl:so=0:=Decidable.not_not.1 t3
   rw [HT (kHx kBj l) (by rw [if_neg (by simp [kGj, *]),if_neg (by simp [kGw, *])])]
   exact form_og k op nms l hsz hin hk7 v w P h (by omega) (by omega) b2 b3 c7 c8 c16 IH
  by_cases t1:nn≠0
  ·rw [HT 3 (by rw [if_pos (by simp [kGj, *])])]
   exact form_ha k op so nn mm nms l hsz hin hk7 v w P h (by omega) (by omega) b2 b3 c7 c8 c16 t1
  obtain rfl:nn=0:=Decidable.not_not.1 t1
  by_cases t2:mm≠0
  ·rw [HT 3 (by rw [if_pos (by simp [kGj, *])])]
   exact form_hb k op so mm nms l hsz hin hk7 v w P h (by omega) (by omega) b2 b3 c7 c8 c16 t2
  obtain rfl:mm=0:=Decidable.not_not.1 t2
  by_cases t3:so<0
  ·rw [HT 2 (by rw [if_neg (by simp [kGj, *]),if_pos (by simp [kGw, *])])]
   exact form_hc k op so nms l hsz hin hk7 v w P h (by omega) (by omega) b2 b3 c7 c8 c16 t3
  by_cases t4:3<so
  ·rw [HT 2 (by rw [if_neg (by simp [kGj, *]),if_pos (by simp [kGw, *])])]
   exact form_hd k op so nms l hsz hin hk7 v w P h (by omega) (by omega) b2 b3 c7 c8 c16 t3 t4
  rw [HT (kHx kBj l) (by rw [if_neg (by simp [kGj, *]),if_neg (by simp [kGw, *])])]
  exact form_hg k op so nms l hsz hin hk7 v w P h (by omega) (by omega) b2 b3 c7 c8 c16 t3 t4 IH
theorem kXz {x:List UInt8} (h:kBj x=true):Real 1 x 0:=by
 unfold kBj at h
 simp only [Bool.and_eq_true,decide_eq_true_eq] at h
 obtain⟨⟨h1,h2⟩,h3⟩:=h
 refine Or.inr ⟨h1,fun y hy=>List.all_eq_true.1 h2 y hy,?_⟩
 cases hc:kEw x with
 | error e=>rw [hc] at h3;cases h3
 | ok p =>
  obtain⟨k,v⟩:=p
  rw [hc] at h3
  simp only [decide_eq_true_eq] at h3
  subst h3
  have hv:v=0:=by
   cases x with
   | nil=>cases hc
   | cons b t =>
    simp only [kEw] at hc
    split at hc
    ·split at hc
     ·cases hc
     ·split at hc
      ·cases hc
      ·cases hc
    ·split at hc
     ·cases hc
     ·split at hc
      ·cases hc
      ·split at hc
       ·cases hc
       ·exact (Prod.mk.inj (Except.ok.inj hc)).2.symm
  rw [hv]
theorem checkR_calls (nd:Nd) (v:Value) (w:World) (P:Nat→Prop) (h:NdV w P nd v) (hk:kCz nd≤10000000) (hin:inN 10000000 nd):Calls Tryz.prog 18 #[v] w fun e w'=>e=.returned (.int .i64 (kSq kBj nd:Nat))∧Upto [] w w':=by
 obtain⟨xo,xn1,xn2,xn3,xs,xm,xq,xl1,xl2,xl3,rfl⟩:=h.six
 have hua:Upto [] w (w.alloc (.cells #[.int .i64 xo,.slice xn1 xn2 xn3,.int .i64 xs,.int .i64 xm,.int .i64 xq,.slice xl1 xl2 xl3] 25)):=(Upto.refl [] w).alloc _
 have HS:=Lib.hid (fun u (hu:Upto [] w u)=>form_calls _ nd hk hin (Nat.le_refl _) _ u P (h.ext hu))
 have HD:=Lib.hid (fun u (hu:Upto [] w u)=>greatR_calls nd _ u P (h.ext hu) hk)
 have HUA:=Lib.hid hua
 have HNB:=Lib.hid (kAq w (.cells #[.int .i64 xo,.slice xn1 xn2 xn3,.int .i64 xs,.int .i64 xm,.int .i64 xq,.slice xl1 xl2 xl3] 25))
 clear h hua hin
 by_cases h1:kKk kBj nd=0
 ·have HF:Hid (kSq kBj nd=kIz nd):=Lib.hid (by unfold kSq;rw [h1];rfl)
  rw [HF.out]
  rw [h1] at HS
  clear h1
  go_enter Tryz.func18,Tryz.ntmps18
  go_wp2_with fail
  refine (HS.out _ HUA.out).mono ?_
  rintro e w5 ⟨rfl,hu5⟩
  have HU5:=Lib.hid (HUA.out.trans_ext hu5)
  have hb5:=hu5.at HNB.out (by simp)
  obtain⟨y0,y1,y2,y3,y4,y5⟩:=kAx hb5
  clear hu5 hb5
  go_wp2_with fail
  refine (HD.out _ HU5.out).mono ?_
  rintro e w6 ⟨rfl,hu6⟩
  have HU6:=Lib.hid (HU5.out.trans_ext hu6)
  clear hu6
  go_wp2_with fail
  go_ret
  exact⟨rfl,HU6.out⟩
 ·have HF:Hid (kSq kBj nd=kKk kBj nd):=Lib.hid (by unfold kSq;rw [if_pos h1])
  rw [HF.out]
  generalize hfx:kKk kBj nd=fx at *
  have ez:((fx:Int)==0)=false:=by rw [beq_eq_false_iff_ne];omega
  have ez2:((fx:Int) != 0)=true:=by rw [bne,ez];rfl
  clear hfx h1
  go_enter Tryz.func18,Tryz.ntmps18
  go_wp2_with fail
  refine (HS.out _ HUA.out).mono ?_
  rintro e w5 ⟨rfl,hu5⟩
  have HU5:=Lib.hid (HUA.out.trans_ext hu5)
  clear hu5
  go_wp2_with fail
  go_ret
  exact⟨rfl,HU5.out⟩
theorem quest_len {q:Qn} (hv:okV q.free) (hb:okF q.body):(jn (prQ q)).length≤175*kCz q.body+500:=by
 have h1:=jn_len hb true
 by_cases hf:q.free=[]
 ·rw [jn_quest0 hf];omega
 ·rw [jn_quest hf]
  have h2:=frS_len q.free (fun v hv'=>kUx (hv.2.1 v hv').1)
  have h3:=hv.1
  simp only [List.length_append,List.length_cons,List.length_nil]
  omega
theorem free_len (f:List (List UInt8×Int)):(txs ((freeB f).map Prod.snd)).length≤3*f.length+2:=by
 rw [←fiT_free]
 have:=fiT_len f
 rw [List.length_append]
 split
 ·rename_i h;subst h;simp [fiT]
 ·simp only [List.length_cons,List.length_nil];omega
theorem WrI.new (w:World):WrI w (w.alloc (.cells #[.slice none 0 0] 101)) w.heap.size [] :=
 ⟨(Upto.refl [] w).alloc _,Nat.le_refl _,none,0,0,kAq w _,⟨rfl,Or.inl ⟨rfl,rfl⟩⟩,fun g hg=>by cases hg⟩
theorem Kp.new {w:World} {B:Nat} {o:Obj} (h:w.heap[B]?=some o):Kp (w.alloc (.cells #[.slice none 0 0] 101)) w.heap.size B o:=by
 refine⟨kCx h _,by have:=kAk h;omega,fun a n c T z hc e=>?_⟩
 rw [kAq] at hc
 simp only [Option.some.injEq,Obj.cells.injEq,Array.mk.injEq,List.cons.injEq,and_true] at hc
 rw [←hc.1] at e
 cases e
theorem print_calls (q:Qn) (v:Value) (w:World) (P:Nat→Prop) (h:QnV w P q v) (hk:kCz q.body≤10000000) (hin:inN 10000000 q.body) (hfn:∀y∈q.free,y.1.length≤10000000) (hE:Env w∧SEnv w∧FEnv w∧PEnv w):Calls Tryz.prog 43 #[v] w fun e w'=>e=.returned (pairV (kTk q))∧Upto [] w w':=by
 have HCQ:=Lib.hid (fun u (hu:Upto [] w u)=>checkq_calls q v u P (QnV.keep (Keep.upto hu (by simp)) h) hk hin hfn ⟨hE.1.ext hu,hE.2.1.upto hu (by simp),hE.2.2.1.ext hu⟩)
 obtain⟨f1,f3,o1,a1,a2,a3,s1,n1,m1,l1,l2,l3,rfl,hv,hn⟩:=h.open
 obtain⟨L,hL⟩:∃L,q.free.length=L:=⟨_,rfl⟩
 rw [hL] at hv HCQ ⊢
 have hu1:Upto [] w (w.alloc (.cells #[.slice f1 L f3,.int .i64 o1,.slice a1 a2 a3,.int .i64 s1,.int .i64 n1,.int .i64 m1,.slice l1 l2 l3] 48)):=(Upto.refl [] w).alloc _
 have HU1:=Lib.hid hu1
 have hb:=kAq w (.cells #[.slice f1 L f3,.int .i64 o1,.slice a1 a2 a3,.int .i64 s1,.int .i64 n1,.int .i64 m1,.slice l1 l2 l3] 48)
 have HB1:=Lib.hid hb
 obtain⟨y0,y1,y2,y3,y4,y5,y6⟩:=kBw hb
 by_cases hR:kIj kBj q=0
 case neg =>
  obtain⟨R,hR2⟩:∃R,kIj kBj q=R:=⟨_,rfl⟩
  have HPF:Hid (kTk q=([],R)):=Lib.hid (by unfold kTk;rw [if_neg hR,hR2])
  rw [hR2] at HCQ hR
  have r1:((R:Int)==0)=false:=by rw [beq_eq_false_iff_ne];omega
  have r2:((R:Int) != 0)=true:=by rw [bne,r1];rfl
  clear hR hR2 hE hin hfn hk hv hn hu1 hb h
  go_enter Tryz.func43,Tryz.ntmps43
  go_wp2_with fail
  refine (HCQ.out _ HU1.out).mono ?_
  rintro e w2 ⟨rfl,hu2⟩
  have HU2:=Lib.hid (HU1.out.trans_ext hu2)
  clear hu2
  go_wp2_with fail
  go_ret2
  exact⟨by rw [HPF.out];rfl,HU2.out⟩
 case pos =>
  obtain⟨hov,hob,hg⟩:=right_ok (fun x=>kXz) hR
  have HPF:Hid (kTk q=cutP (jn (prQ q))):=Lib.hid (by unfold kTk;rw [if_pos hR])
  rw [hR] at HCQ
  have HEU:=Lib.hid (fun u (hu:Upto [] w u)=>(⟨hE.2.2.2.ext hu,hE.2.1.upto hu (by simp)⟩:PEnv u∧SEnv u))
  have HV:=Lib.hid hv
  have HN:=Lib.hid hn
  have HOV:=Lib.hid hov
  have HOB:=Lib.hid hob
  have HL:=Lib.hid hL
  have HLQ:Hid ((jn (prQ q)).length≤2000000000):=Lib.hid (by have:=quest_len hov hob;omega)
  have HLF:Hid ((txs ((freeB q.free).map Prod.snd)).length≤30):=Lib.hid (by have:=free_len q.free;have:=hov.1;omega)
  have HLT:Hid ((prT true q.body).length≤2000000000):=Lib.hid (by have h1:=len_wts (prT true q.body);have h2:=pr_le hob true;omega)
  clear hR hE hin hfn hk hv hn hu1 hb h hov hob hg
  go_enter Tryz.func43,Tryz.ntmps43
  go_wp2_with fail
  refine (HCQ.out _ HU1.out).mono ?_
  rintro e w2 ⟨rfl,hu2⟩
  have HU2:=Lib.hid (HU1.out.trans_ext hu2)
  have hb2:=hu2.at HB1.out (by simp)
  have K3:=Lib.hid (Kp.new hb2)
  have HW3:=Lib.hid (WrI.new w2)
  have hb3:=K3.out.1
  obtain⟨z0,z1,z2,z3,z4,z5,z6⟩:=kBw hb3
  clear hu2 hb2 hb3
  go_wp2_with fail
  refine (find_calls w2 _ w2.heap.size [] P q.free L HL.out f1 f3 o1 a1 a2 a3 s1 n1 m1 l1 l2 l3 HW3.out (HV.out.ext HU2.out) HOV.out (fun u hu=>(HEU.out u (HU2.out.trans_ext hu)).2) (by simp)).mono ?_
  rintro e w4 ⟨rfl,hw4,hk4⟩
  rw [List.nil_append] at hw4
  have HW4:=Lib.hid hw4
  have K4:=Lib.hid (hk4.2 _ _ K3.out)
  have hb4:=K4.out.1
  clear hw4 hk4 z0 z1 z2 z3 z4 z5 z6
  obtain⟨t0,t1,t2,t3,t4,t5,t6⟩:=kBw hb4
  clear hb4
  go_wp2_with fail
  refine (node_calls _ q.body (Nat.le_refl _) HOB.out w2 w2.heap.size P _ (fun u hu=>HEU.out u (HU2.out.trans_ext hu)) (patom_calls (fun u hu=>(HEU.out u (HU2.out.trans_ext hu)).1)) (HN.out.ext HU2.out) true w4 _ HW4.out (by have h1:=HLF.out;have h2:=HLT.out;omega)).mono ?_
  rintro e w5 ⟨rfl,hw5,hk5⟩
  rw [show txs ((freeB q.free).map Prod.snd)++txs (prT true q.body)=txs (prQ q) by rw [←txs_app];rfl] at hw5
  have HW5:=Lib.hid hw5
  clear hw5 hk5
  go_wp2_with fail
  refine (text_calls w2 w5 w2.heap.size _ HW5.out (by rw [jn_txs];have h1:=HLQ.out;omega) (by have h1:=HLF.out;have h2:=HLT.out;rw [txs_len] at h1 ⊢;unfold prQ;rw [List.length_append];omega)).mono ?_
  rintro e w6 ⟨rfl,hu6⟩
  rw [jn_txs,←HPF.out]
  obtain⟨r,hr⟩:∃r,kTk q=r:=⟨_,rfl⟩
  rw [hr]
  have HRR:=Lib.hid hr
  clear hr
  have HU6:=Lib.hid ((HU2.out.trans_ext HW5.out.up).trans_ext hu6)
  clear hu6
  unfold pairV
  go_wp2_with fail
  go_ret2
  exact⟨by rw [HRR.out];rfl,HU6.out⟩
theorem ok_in:∀(k:Nat) (nd:Nd),kCz nd≤k→okF nd→inN 10000000 nd
 | 0,nd,hk,_=>by have:=kJx nd;omega
 | k+1,.mk op names so n m l,hk,hok=>by
  unfold okF at hok
  obtain⟨hnm,hc,hs⟩:=hok
  unfold inN
  have hn:names.length≤17:=by
   rcases hc with⟨-,h,-⟩ | ⟨-,-,h,-⟩ | ⟨-,h,-⟩ | ⟨-,h,-⟩ | ⟨-,h,-⟩ | ⟨-,-,h,-⟩ | ⟨-,h,-⟩ | ⟨-,-,h,-⟩ | ⟨-,-,h,-⟩
   ·rw [h];simp
   ·omega
   ·omega
   ·omega
   ·omega
   ·omega
   ·rw [h];simp
   ·rw [h];simp
   ·omega
  have hl:l.length≤2:=by
   rcases hc with⟨-,-,h,-⟩ | ⟨-,-,-,h,-⟩ | ⟨-,-,h,-⟩ | ⟨-,-,h,-⟩ | ⟨-,-,h,-⟩ | ⟨-,-,-,h,-⟩ | ⟨-,-,h,-⟩ | ⟨-,-,-,h,-⟩ | ⟨-,-,-,h,-⟩
   ·rw [h];simp
   ·rw [h];simp
   ·rw [h];simp
   ·rw [h];simp
   ·rw [h];simp
   ·rw [h];simp
   ·omega
   ·omega
   ·omega
  refine⟨by omega,fun x hx=>by have:=kUx (hnm x hx);omega,by omega,insN_of fun x hx=>?_⟩
  have hsz:kBk l≤k:=by unfold kCz at hk;omega
  have h1:=sizes_memb hx
  have h2:∀(l:List Nd),oksF l→x∈l→okF x:=by
   intro l
   induction l with
   | nil=>intro _ h;cases h
   | cons y r ih =>
    intro h hx
    unfold oksF at h
    rcases List.mem_cons.1 hx with rfl | hx
    ·exact h.1
    ·exact ih h.2 hx
  exact ok_in k x (by omega) (h2 l hs hx)
theorem print_right (q:Qn) (v:Value) (w:World) (P:Nat→Prop) (h:QnV w P q v) (hr:kIj kBj q=0) (hE:Env w∧SEnv w∧FEnv w∧PEnv w):Calls Tryz.prog 43 #[v] w fun e w'=>e=.returned (pairV (kTk q))∧Upto [] w w':=by
 obtain⟨hv,hb,hg⟩:=right_ok (fun x=>kXz) hr
 have hz:=(great_lim hg).1
 exact print_calls q v w P h (by omega) (ok_in _ q.body (Nat.le_refl _) hb) (fun y hy=>by have:=kUx (hv.2.1 y hy).1;omega) hE
def kpL:List (List UInt8):=[[40,32,97,32,61,32,98,32,111,114,32,99,32,61,32,100,32,41,32,97,110,100,32,115,111,109,101,32,118,101,114,116,101,120,32,120,32,58,32,120,32,105,110,32,88],[110,111,116,32,40,32,97,32,61,32,98,32,97,110,100,32,99,32,61,32,100,32,41],[97,32,61,32,98,32,97,110,100,32,40,32,98,32,61,32,99,32,97,110,100,32,99,32,61,32,100,32,41],[102,105,110,100,32,115,101,116,32,88,32,44,32,101,100,103,101,32,101,32,58,32,101,32,111,110,32,88,32,105,109,112,108,105,101,115,32,116,114,117,101,32,105,109,112,108,105,101,115,32,102,97,108,115,101]]
def kpQ:List Qn:=[⟨[],.mk 12 [] 0 0 0 [.mk 13 [] 0 0 0 [.mk 2 [[97],[98]] 0 0 0 [],.mk 2 [[99],[100]] 0 0 0 []],.mk 16 [[120]] 0 0 0 [.mk 3 [[120],[88]] 0 0 0 []]]⟩,⟨[],.mk 11 [] 0 0 0 [.mk 12 [] 0 0 0 [.mk 2 [[97],[98]] 0 0 0 [],.mk 2 [[99],[100]] 0 0 0 []]]⟩,⟨[],.mk 12 [] 0 0 0 [.mk 2 [[97],[98]] 0 0 0 [],.mk 12 [] 0 0 0 [.mk 2 [[98],[99]] 0 0 0 [],.mk 2 [[99],[100]] 0 0 0 []]]⟩,⟨[([88],2),([101],1)],.mk 14 [] 0 0 0 [.mk 6 [[101],[88]] 0 0 0 [],.mk 14 [] 0 0 0 [.mk 0 [] 0 0 0 [],.mk 1 [] 0 0 0 []]]⟩]
def kpE:List UInt8:=[40,40,40,97,32,61,32,98,41,41,32,97,110,100,32,99,32,61,32,100,41,32,97,110,100,32,40,101,32,61,32,102,41]
def kpF:List UInt8:=[97,32,61,32,98,32,97,110,100,32,99,32,61,32,100,32,97,110,100,32,101,32,61,32,102]
def kpG:Qn:=⟨[],.mk 12 [] 0 0 0 [.mk 12 [] 0 0 0 [.mk 2 [[97],[98]] 0 0 0 [],.mk 2 [[99],[100]] 0 0 0 []],.mk 2 [[101],[102]] 0 0 0 []]⟩
theorem kp_parse:∀k:_root_.Fin 4,kGx kFw (kpL.getD k.val [])=⟨kpQ.getD k.val ⟨[],.zero⟩,0,0,0⟩:=fun
 | ⟨0,_⟩=>by kernel_rfl
 | ⟨1,_⟩=>by kernel_rfl
 | ⟨2,_⟩=>by kernel_rfl
 | ⟨3,_⟩=>by kernel_rfl
theorem kp_right:∀k:_root_.Fin 4,kIj kBj (kpQ.getD k.val ⟨[],.zero⟩)=0:=fun
 | ⟨0,_⟩=>by kernel_rfl
 | ⟨1,_⟩=>by kernel_rfl
 | ⟨2,_⟩=>by kernel_rfl
 | ⟨3,_⟩=>by kernel_rfl
theorem kp_jn:∀k:_root_.Fin 4,jn (prQ (kpQ.getD k.val ⟨[],.zero⟩))=kpL.getD k.val []:=fun
 | ⟨0,_⟩=>by kernel_rfl
 | ⟨1,_⟩=>by kernel_rfl
 | ⟨2,_⟩=>by kernel_rfl
 | ⟨3,_⟩=>by kernel_rfl
theorem kp_len:∀k:_root_.Fin 4,(kpL.getD k.val []).length≤1000:=by decide +kernel
theorem kp_print (k:Nat) (h:k<4):kTk (kpQ.getD k ⟨[],.zero⟩)=(kpL.getD k [],0):=by
 unfold kTk
 have h1:=kp_right ⟨k,h⟩
 have h2:=kp_jn ⟨k,h⟩
 have h3:=kp_len ⟨k,h⟩
 simp only at h1 h2 h3
 rw [if_pos h1,h2]
 unfold cutP
 rw [if_neg (by omega)]
theorem kpE_parse:kGx kFw kpE=⟨kpG,0,0,0⟩:=by kernel_rfl
theorem kpG_right:kIj kBj kpG=0:=by kernel_rfl
theorem kpG_jn:jn (prQ kpG)=kpF:=by kernel_rfl
theorem kpG_print:kTk kpG=(kpF,0):=by
 unfold kTk
 rw [if_pos kpG_right,kpG_jn]
 unfold cutP
 rw [if_neg (by decide)]
theorem kTw (w:World) (hE:Env w∧SEnv w∧FEnv w∧PEnv w):Calls Tryz.prog 42 #[] w fun e w'=>e=.returned (.bool true)∧Upto [] w w':=by
 have HE:Hid (∀u,Upto [] w u→Env u∧SEnv u∧FEnv u∧PEnv u):=Lib.hid (fun u hu=>⟨hE.1.ext hu,hE.2.1.upto hu (by simp),hE.2.2.1.ext hu,hE.2.2.2.ext hu⟩)
 have HP:Hid (∀s:List UInt8,s.length≤1000→∀u,Upto [] w u→Calls Tryz.prog 39 #[.string ⟨s.toArray⟩] u (PRPost u (kGx kFw s))):=Lib.hid (fun s hs u hu=>parse_calls s (by omega) u (HE.out u hu).1 (HE.out u hu).2.1)
 have hu0:Upto [] w (w.alloc (.cells #[.string ⟨#[40,32,97,32,61,32,98,32,111,114,32,99,32,61,32,100,32,41,32,97,110,100,32,115,111,109,101,32,118,101,114,116,101,120,32,120,32,58,32,120,32,105,110,32,88]⟩,.string ⟨#[110,111,116,32,40,32,97,32,61,32,98,32,97,110,100,32,99,32,61,32,100,32,41]⟩,.string ⟨#[97,32,61,32,98,32,97,110,100,32,40,32,98,32,61,32,99,32,97,110,100,32,99,32,61,32,100,32,41]⟩,.string ⟨#[102,105,110,100,32,115,101,116,32,88,32,44,32,101,100,103,101,32,101,32,58,32,101,32,111,110,32,88,32,105,109,112,108,105,101,115,32,116,114,117,101,32,105,109,112,108,105,101,115,32,102,97,108,115,101]⟩] 9)):=(Upto.refl [] w).alloc _
 have HU0:=Lib.hid hu0
 have HC:Hid (∀k,k<4→(w.alloc (.cells #[.string ⟨#[40,32,97,32,61,32,98,32,111,114,32,99,32,61,32,100,32,41,32,97,110,100,32,115,111,109,101,32,118,101,114,116,101,120,32,120,32,58,32,120,32,105,110,32,88]⟩,.string ⟨#[110,111,116,32,40,32,97,32,61,32,98,32,97,110,100,32,99,32,61,32,100,32,41]⟩,.string ⟨#[97,32,61,32,98,32,97,110,100,32,40,32,98,32,61,32,99,32,97,110,100,32,99,32,61,32,100,32,41]⟩,.string ⟨#[102,105,110,100,32,115,101,116,32,88,32,44,32,101,100,103,101,32,101,32,58,32,101,32,111,110,32,88,32,105,109,112,108,105,101,115,32,116,114,117,101,32,105,109,112,108,105,101,115,32,102,97,108,115,101]⟩] 9)).cell? ⟨w.heap.size,k,none⟩=some (.string ⟨(kpL.getD k []).toArray⟩)):=Lib.hid (fun k hk=>by
  rw [kAz (kAq w _)]
  show (kpL.map sV).toArray[k]?=_
  rw [List.getElem?_toArray,List.getElem?_map,List.getD_eq_getElem?_getD]
  obtain⟨z,hz⟩:∃z,kpL[k]?=some z:=⟨_,List.getElem?_eq_getElem (by simpa [kpL] using hk)⟩
  rw [hz]
  rfl)
 have HPE:Hid (∀u,Upto [] w u→Calls Tryz.prog 39 #[.string ⟨kpE.toArray⟩] u (PRPost u (kGx kFw kpE))):=Lib.hid (fun u hu=>HP.out kpE (by decide) u hu)
 clear hE hu0
 go_enter Tryz.func42,Tryz.ntmps42
 go_wp2_with fail
 generalize hW:(w.alloc (.cells #[.string ⟨#[40,32,97,32,61,32,98,32,111,114,32,99,32,61,32,100,32,41,32,97,110,100,32,115,111,109,101,32,118,101,114,116,101,120,32,120,32,58,32,120,32,105,110,32,88]⟩,.string ⟨#[110,111,116,32,40,32,97,32,61,32,98,32,97,110,100,32,99,32,61,32,100,32,41]⟩,.string ⟨#[97,32,61,32,98,32,97,110,100,32,40,32,98,32,61,32,99,32,97,110,100,32,99,32,61,32,100,32,41]⟩,.string ⟨#[102,105,110,100,32,115,101,116,32,88,32,44,32,101,100,103,101,32,101,32,58,32,101,32,111,110,32,88,32,105,109,112,108,105,101,115,32,116,114,117,101,32,105,109,112,108,105,101,115,32,102,97,108,115,101]⟩] 9))=W at *
 clear hW
 generalize w.heap.size=B at *
 go_loopw [2] (fun i wr=>∃k:Nat,k≤4∧i=.int .i64 k∧Hid (Upto [] W wr)) (fun i _=>4-(intOf i).toNat)
 case atStart=>exact⟨0,by omega,rfl,Lib.hid (Upto.refl _ _)⟩
 case round =>
  obtain⟨k,hk,rfl,HU⟩:=hrel
  have hk0:(0:Int)≤k:=by omega
  have HWR:=Lib.hid (HU0.out.trans_ext HU.out)
  rcases Nat.lt_or_ge k 4 with hlt | hge
  ·have hltI:(k:Int)<4:=by omega
   have c0:=HC.out k hlt
   replace c0:=kAw HU.out c0
   have hpk:=kp_parse ⟨k,hlt⟩
   have hrk:=kp_right ⟨k,hlt⟩
   have hlk:=kp_len ⟨k,hlt⟩
   have hprk:=kp_print k hlt
   simp only at hpk hrk hlk
   have HPK:=Lib.hid (HP.out (kpL.getD k []) hlk wr HWR.out)
   rw [hpk] at HPK
   have HPR:Hid (∀(P:Nat→Prop) v u,Upto [] w u→QnV u P (kpQ.getD k ⟨[],.zero⟩) v→Calls Tryz.prog 43 #[v] u fun e w'=>e=.returned (pairV (kpL.getD k [],0))∧Upto [] u w'):=Lib.hid (fun P v u hu hq=>by
    have:=print_right _ v u P hq hrk (HE.out u hu)
    rwa [hprk] at this)
   have HLT:=Lib.hid hlt
   clear hpk hrk hlk hprk hlt
   obtain⟨S,hS⟩:∃S,kpL.getD k []=S:=⟨_,rfl⟩
   rw [hS] at HPK HPR c0
   have HSS:=Lib.hid hS
   clear hS
   generalize kpQ.getD k ⟨[],.zero⟩=Q at *
   go_wp2_with fail
   refine HPK.out.mono ?_
   rintro e w1 ⟨v,rfl,hq,hu⟩
   obtain⟨h1,h2,h3,o2,b1,b2,b3,s2,n2,m2,k1,k2,k3,rfl⟩:=hq.seven
   obtain⟨hq1,hu1,hbq,-,hu2⟩:=kn_fin (r:=⟨Q,0,0,0⟩) hu hq
   have HQ1:=Lib.hid hq1
   have HW1:=Lib.hid (HWR.out.trans_ext hu1)
   have HU1:=Lib.hid (HU.out.trans_ext hu1)
   obtain⟨x0,x1,x2,x3,x4,x5,x6⟩:=kBw hbq
   clear hq hu hq1 hu1 hbq hu2
   go_wp2_with fail
   refine (HPR.out _ _ _ HW1.out HQ1.out).mono ?_
   rintro e w3 ⟨rfl,hu3⟩
   unfold pairV
   have HU3:=Lib.hid (HU1.out.trans_ext hu3)
   have c3:=HC.out k HLT.out
   rw [HSS.out] at c3
   replace c3:=kAw HU3.out c3
   clear hu3 c0 x0 x1 x2 x3 x4 x5 x6
   go_wp2_with fail
   go_roundw
   case rel=>exact⟨k+1,by omega,by go_num,HU3⟩
   case measure=>simp [intOf];omega
  ·have hgeI:¬(k:Int)<4:=by omega
   go_wp2_with fail
   refine (HPE.out _ HWR.out).mono ?_
   rw [kpE_parse]
   rintro e w1 ⟨v,rfl,hq,hu⟩
   obtain⟨h1,h2,h3,o2,b1,b2,b3,s2,n2,m2,k1,k2,k3,rfl⟩:=hq.seven
   obtain⟨hq1,hu1,hbq,-,hu2⟩:=kn_fin (r:=⟨kpG,0,0,0⟩) hu hq
   have HQ1:=Lib.hid hq1
   have HW1:=Lib.hid (HWR.out.trans_ext hu1)
   obtain⟨x0,x1,x2,x3,x4,x5,x6⟩:=kBw hbq
   clear hq hu hq1 hu1 hbq hu2
   go_wp2_with fail
   have HPR:=Lib.hid (print_right kpG _ _ _ HQ1.out kpG_right (HE.out _ HW1.out))
   rw [kpG_print] at HPR
   refine HPR.out.mono ?_
   rintro e w3 ⟨rfl,hu3⟩
   unfold pairV
   have HU3:=Lib.hid (HW1.out.trans_ext hu3)
   clear hu3
   go_wp2_with fail
   go_ret
   exact⟨rfl,HU3.out⟩
theorem done_at {L l:List PL.Tok} (hl:Alike (L++[⟨0,[],0,0,0⟩]) l):(tkAt l ⟨l.length-1,0,0⟩).kind=0:=by
 rw [←al_kind hl]
 have hlen:=al_len hl
 simp only [List.length_append,List.length_cons,List.length_nil] at hlen
 unfold tkAt
 simp only
 rw [show l.length-1=L.length by omega]
 simp
structure kYz (q:Qn):Prop where
 v:okV q.free
 b:okF q.body
 g:kIz q.body=0
 lv:lvF true q.body≤256
 len:(jn (prQ q)).length≤65536
 blen:(jn (prT true q.body)).length≤65536
theorem right_check {q:Qn} (hr:kIj kBj q=0):kSq kBj q.body=0:=by
 unfold kIj at hr
 by_cases h1:8<q.free.length
 ·rw [if_pos h1] at hr;cases hr
 rw [if_neg h1] at hr
 by_cases h2:kYk kBj q.free []≠0
 ·rw [if_pos h2] at hr;exact absurd hr h2
 rwa [if_neg h2] at hr
theorem cutP_short {S:List UInt8} (h:S.length≤65536):cutP S=(S,0):=by
 unfold cutP
 rw [if_neg (by omega)]
theorem kYz.node {q:Qn} (h:kYz q) (hr:kIj kBj q=0):nodeF q.body=(jn (prT true q.body),0):=by
 unfold nodeF
 rw [if_pos (right_check hr),cutP_short h.blen]
theorem kYz.read {q:Qn} (h:kYz q):kGx kFw (jn (prQ q))=⟨q,0,0,0⟩:=by
 obtain⟨ts,h1,h2⟩:=jn_lex (prQ_real h.v h.b) h.len
 unfold kGx
 rw [show lexT (jn (prQ q))=.ok ts from h1]
 simp only
 rw [prQ_parse h.v h.b h.lv h2]
 simp only
 exact endF_done (done_at h2) h.g
theorem node_read {n:Nd} (hb:okF n) (hg:kIz n=0) (hl:lvF true n≤256) (hn:(jn (prT true n)).length≤65536):kGx bareP (jn (prT true n))=⟨⟨[],n⟩,0,0,0⟩:=by
 obtain⟨ts,h1,h2⟩:=jn_lex (allT_pr _ n (Nat.le_refl _) hb true) hn
 unfold kGx
 rw [show lexT (jn (prT true n))=.ok ts from h1]
 simp only
 rw [pr_bare hb hl h2]
 simp only
 exact endF_done (q:=⟨[],n⟩) (done_at h2) hg
theorem kYz.bare {q:Qn} (h:kYz q):kGx bareP (jn (prT true q.body))=⟨⟨[],q.body⟩,0,0,0⟩:=node_read h.b h.g h.lv h.blen
theorem kYz.inj {p q:Qn} (hp:kYz p) (hq:kYz q):jn (prQ p)=jn (prQ q)↔p=q:=by
 constructor
 ·intro h
  have h1:=hp.read
  rw [h,hq.read] at h1
  exact (congrArg PR.q h1).symm
 ·rintro rfl;rfl
theorem kTx (q:Qn) (v:Value) (w:World) (P:Nat→Prop) (h:QnV w P q v) (hk:kCz q.body≤10000000) (hin:inN 10000000 q.body) (hfn:∀y∈q.free,y.1.length≤10000000):Calls Tryz.prog 35 #[v] w fun e w'=>e=.returned (.int .i64 (kIj kBj q:Nat))∧Upto [] w w':=by
 obtain⟨f1,f3,o1,a1,a2,a3,s1,n1,m1,l1,l2,l3,rfl,hv,hn⟩:=h.open
 have hu1:Upto [] w (w.alloc (.cells #[.slice f1 q.free.length f3,.int .i64 o1,.slice a1 a2 a3,.int .i64 s1,.int .i64 n1,.int .i64 m1,.slice l1 l2 l3] 45)):=(Upto.refl [] w).alloc _
 have HU1:=Lib.hid hu1
 have HB1:=Lib.hid (kAq w (.cells #[.slice f1 q.free.length f3,.int .i64 o1,.slice a1 a2 a3,.int .i64 s1,.int .i64 n1,.int .i64 m1,.slice l1 l2 l3] 45))
 by_cases h8:8<q.free.length
 ·have h8I:(8:Int)<q.free.length:=by omega
  have HF:Hid (kIj kBj q=8):=Lib.hid (by unfold kIj;rw [if_pos h8])
  rw [HF.out]
  clear h hv hn hk hin hfn hu1
  go_enter Tryz.func35,Tryz.ntmps35
  go_wp2_with fail
  go_ret
  exact⟨rfl,HU1.out⟩
 have h8I:¬(8:Int)<q.free.length:=by omega
 have H8:=Lib.hid h8
 have HG:=Lib.hid (kWj hv)
 have HFN:=Lib.hid hfn
 have HCK:=Lib.hid (fun u (hu:Upto [] w u)=>checkR_calls q.body _ u P (hn.ext hu) hk hin)
 have hL0:(0:Int)≤q.free.length:=by omega
 have hL1:(q.free.length:Int)≤8:=by omega
 clear h hv hn hk hin hfn hu1 h8
 go_enter Tryz.func35,Tryz.ntmps35
 go_wp2_with fail
 go_loopw [3] (fun i wr=>∃j:Nat,j≤q.free.length∧i=.int .i64 j∧Hid (kYk kBj (q.free.drop j) ((q.free.take j).map Prod.fst)=kYk kBj q.free [])∧Hid (Upto [] (w.alloc (.cells #[.slice f1 q.free.length f3,.int .i64 o1,.slice a1 a2 a3,.int .i64 s1,.int .i64 n1,.int .i64 m1,.slice l1 l2 l3] 45)) wr)) (fun i _=>q.free.length-(intOf i).toNat)
 case atStart=>exact⟨0,by omega,rfl,Lib.hid (by simp),Lib.hid (Upto.refl _ _)⟩
 case round =>
  obtain⟨j,hj,rfl,HE,HU⟩:=hrel
  have hj0:(0:Int)≤j:=by omega
  have hb:=HU.out.at HB1.out (by simp)
  obtain⟨y0,y1,y2,y3,y4,y5,y6⟩:=kBw hb
  have HW:=Lib.hid (HU1.out.trans_ext HU.out)
  rcases Nat.lt_or_ge j q.free.length with hlt | hge
  ·have hltI:(j:Int)<q.free.length:=by omega
   obtain⟨x,hx⟩:∃x,q.free[j]?=some x:=⟨_,List.getElem?_eq_getElem hlt⟩
   have HDR:Hid (q.free.drop j=x::q.free.drop (j+1)):=Lib.hid (by
    obtain⟨hi,h3⟩:=List.getElem?_eq_some_iff.1 hx
    rw [List.drop_eq_getElem_cons hi,h3])
   have HTK:Hid ((q.free.take (j+1)).map Prod.fst=(q.free.take j).map Prod.fst++[x.1]):=Lib.hid (by
    rw [List.take_add_one,hx]
    simp)
   have hnl:=HFN.out x (List.mem_of_getElem? hx)
   obtain⟨g,o,rfl,c0,c1⟩:=HG.out j x hx
   have HGx:=HG
   replace c0:=kAw HW.out c0
   replace c1:=kAw HW.out c1
   obtain⟨x1,x2⟩:=x
   simp only at c0 c1 hnl HTK
   have hxa:Upto [] wr (wr.alloc (.cells #[.string ⟨x1.toArray⟩,.int .i64 x2] 91)):=(Upto.refl [] wr).alloc _
   have HXV:=Lib.hid (HU.out.trans_ext hxa)
   have HXA:=Lib.hid (HW.out.trans_ext hxa)
   have hn:=kAq wr (.cells #[.string ⟨x1.toArray⟩,.int .i64 x2] 91)
   have HN:=Lib.hid hn
   have HBx:=Lib.hid (hxa.at hb (by simp))
   obtain⟨n0,n1⟩:=kKx hn
   have HC:=Lib.hid (kGz x1 (wr.alloc (.cells #[.string ⟨x1.toArray⟩,.int .i64 x2] 91)) (by omega))
   have hbb:kBj x1=true∨kBj x1=false:=by cases kBj x1<;>simp
   rcases hbb with hb2 | hb2
   case inr =>
    have HF:Hid (kIj kBj q=3):=Lib.hid (right_vars H8.out (by decide) (by rw [←HE.out,HDR.out];unfold kYk;rw [if_pos hb2]))
    rw [hb2] at HC
    clear hx hb hb2 hxa hn hnl
    go_wp2_with fail
    refine HC.out.mono ?_
    rintro e w5 ⟨rfl,hu5⟩
    have HU5:=Lib.hid (HXA.out.trans_ext hu5)
    clear hu5
    go_wp2_with fail
    go_ret
    rw [HF.out]
    exact⟨rfl,HU5.out⟩
   case inl =>
    by_cases hs:(decide (x2<0)||decide (3<x2))=true
    ·have HF:Hid (kIj kBj q=2):=Lib.hid (right_vars H8.out (by decide) (by rw [←HE.out,HDR.out];unfold kYk;rw [if_neg (by rw [hb2];decide),if_pos hs]))
     rw [hb2] at HC
     have hs2:x2<0∨(¬x2<0∧3<x2):=by simp at hs;omega
     clear hx hb hb2 hxa hn hnl hs
     rcases hs2 with hs2 | ⟨hs2,hs3⟩
     ·go_wp2_with fail
      refine HC.out.mono ?_
      rintro e w5 ⟨rfl,hu5⟩
      have HU5:=Lib.hid (HXA.out.trans_ext hu5)
      have hb5:=hu5.at HN.out (by simp)
      obtain⟨z0,z1⟩:=kKx hb5
      clear hu5 hb5 z0
      go_wp2_with fail
      go_ret
      rw [HF.out]
      exact⟨rfl,HU5.out⟩
     ·go_wp2_with fail
      refine HC.out.mono ?_
      rintro e w5 ⟨rfl,hu5⟩
      have HU5:=Lib.hid (HXA.out.trans_ext hu5)
      have hb5:=hu5.at HN.out (by simp)
      obtain⟨z0,z1⟩:=kKx hb5
      clear hu5 hb5 z0
      go_wp2_with fail
      go_ret
      rw [HF.out]
      exact⟨rfl,HU5.out⟩
    have HS:=Lib.hid hs
    have hs2:¬x2<0:=by simp at hs;omega
    have hs3:¬3<x2:=by simp at hs;omega
    have HNM:=Lib.hid hb2
    have HXX:=Lib.hid hx
    rw [hb2] at HC
    clear hx hb hb2 hxa hn hnl hs
    go_wp2_with fail
    refine HC.out.mono ?_
    rintro e w5 ⟨rfl,hu5⟩
    have HU5:=Lib.hid (HXA.out.trans_ext hu5)
    have HV5:=Lib.hid (HXV.out.trans_ext hu5)
    have HN5:=Lib.hid (hu5.at HN.out (by simp))
    have HB5:=Lib.hid (hu5.at HBx.out (by simp))
    have hb5:=HN5.out
    have hq5:=HB5.out
    obtain⟨z0,z1⟩:=kKx hb5
    clear hu5 hb5 hq5 y0 y1 y2 y3 y4 y5 y6 n0 n1
    go_wp2_with fail
    clear z0 z1
    go_loopw [5] (fun i wx=>∃m:Nat,m≤j∧i=.int .i64 m∧Hid (∀p y,p<m→q.free[p]?=some y→y.1≠x1)∧Hid (Upto [] w5 wx)) (fun i _=>j-(intOf i).toNat)
    case atStart=>exact⟨0,by omega,rfl,Lib.hid (fun p y hp=>by omega),Lib.hid (Upto.refl _ _)⟩
    case round =>
     obtain⟨m,hm,rfl,HB9,HV⟩:=hrel
     have hm0:(0:Int)≤m:=by omega
     have HW9:=Lib.hid (HU5.out.trans_ext HV.out)
     rcases Nat.lt_or_ge m j with hlt2 | hge2
     ·have hltJ:(m:Int)<j:=by omega
      have hltK:(m:Int)<q.free.length:=by omega
      obtain⟨y,hy⟩:∃y,q.free[m]?=some y:=⟨_,List.getElem?_eq_getElem (by omega)⟩
      obtain⟨g',o',eg,p0,-⟩:=HGx.out m y hy
      simp at eg
      obtain⟨rfl,rfl⟩:=eg
      replace p0:=kAw HW9.out p0
      have hq9:=HV.out.at HB5.out (by simp)
      have hx9:=HV.out.at HN5.out (by simp)
      have hd:=(Upto.refl [] wr).drew
      have hq8:=hd.at hq9 (by simp)
      have hx8:=hd.at hx9 (by simp)
      have p1:=(hd.cell (p:=⟨g,o+m*2,none⟩) (World.block_lt_of_cell? wr _ p0) (by simp)).trans p0
      have u0:=kAz hq9 0
      have u1:=kAz hq8 0
      have t0:=kAz hx9 0
      have t1:=kAz hx8 0
      simp only [List.getElem?_toArray,List.getElem?_cons_zero] at u0 u1 t0 t1
      have HD:=Lib.hid (HV.out.trans_ext hd)
      have HDW:=Lib.hid (HW9.out.trans_ext hd)
      obtain⟨y1,y2⟩:=y
      simp only at p0 p1
      by_cases hxy:y1=x1
      ·have HF:Hid (kIj kBj q=7):=Lib.hid (right_vars H8.out (by decide) (by
        rw [←HE.out,HDR.out];unfold kYk
        rw [if_neg (by rw [HNM.out];decide),if_neg HS.out,if_pos]
        rw [List.contains_iff_mem]
        exact List.mem_map.2 ⟨(y1,y2),List.mem_of_getElem? (i:=m) (by rw [List.getElem?_take_of_lt hlt2];exact hy),hxy⟩))
       subst hxy
       clear hy hq9 hx9 hq8 hx8 hd
       go_wp2_with fail
       go_region
       all_goals (
        go_wp2_with fail
        go_ret
        rw [HF.out]
        exact⟨rfl,HDW.out⟩)
      ·have HA2:Hid (∀p y,p<m+1→q.free[p]?=some y→y.1≠x1):=Lib.hid (fun p y hp hyy=>by
        by_cases hpm:p=m
        ·subst hpm
         rw [hy] at hyy
         cases hyy
         exact hxy
        ·exact HB9.out p y (by omega) hyy)
       have q1:(y1==x1)=false:=by simpa using hxy
       have q2:(y1 != x1)=true:=by rw [bne,q1];rfl
       clear hy hq9 hx9 hq8 hx8 hd hxy
       go_wp2_with fail
       go_region
       all_goals (
        go_wp2_with fail
        go_roundw
        case rel=>exact⟨m+1,by omega,by go_num,HA2,HD⟩
        case measure=>simp [intOf];omega)
     ·have hgeJ:¬(m:Int)<j:=by omega
      have HE2:Hid (kYk kBj (q.free.drop (j+1)) ((q.free.take (j+1)).map Prod.fst)=kYk kBj q.free []):=Lib.hid (by
       rw [HTK.out,←HE.out,HDR.out]
       conv=>rhs;unfold kYk
       rw [if_neg (by rw [HNM.out];decide),if_neg HS.out,if_neg]
       rw [List.contains_iff_mem]
       intro hmm
       obtain⟨y,hy,e⟩:=List.mem_map.1 hmm
       obtain⟨i,hi⟩:=List.mem_iff_getElem?.1 hy
       by_cases hij:i<j
       ·rw [List.getElem?_take_of_lt hij] at hi
        exact HB9.out i y (by omega) hi e
       ·rw [List.getElem?_take_eq_none (by omega)] at hi
        cases hi)
      have HV9:=Lib.hid (HV5.out.trans_ext HV.out)
      go_wp2_with fail
      go_roundw
      case rel=>exact⟨j+1,by omega,by go_num,HE2,HV9⟩
      case measure=>simp [intOf];omega
  ·have hgeI:¬(j:Int)<q.free.length:=by omega
   have HF:Hid (kIj kBj q=kSq kBj q.body):=Lib.hid (right_body H8.out (by
    rw [←HE.out,List.drop_of_length_le (by omega)]
    rfl))
   have HC:=Lib.hid (HCK.out wr HW.out)
   clear hb
   go_wp2_with fail
   refine HC.out.mono ?_
   rintro e w5 ⟨rfl,hu5⟩
   have HU5:=Lib.hid (HW.out.trans_ext hu5)
   clear hu5
   go_wp2_with fail
   go_ret
   rw [HF.out]
   exact⟨rfl,HU5.out⟩
structure QFacts (w:World) (q:Qn) (v:Value):Prop where
 val:QnV w AnyB q v
 sz:kCz q.body≤10000000
 ins:inN 10000000 q.body
 big:bigN q.body
 fl:q.free.length≤10000000
 fn:∀y∈q.free,y.1.length≤10000000
theorem ArgQ.facts {w:World} {q:Qn} {v:Value} (h:ArgQ w q v):QFacts w q v :=
 ⟨h.val,by have:=h.sz;omega,inN.mono (by decide) _ h.ins,inN.big (by decide) _ h.ins,by have:=h.fr;omega,fun y hy=>by have:=h.nm y hy;omega⟩
theorem QFacts.ext {w u:World} {q:Qn} {v:Value} (h:QFacts w q v) (hu:Upto [] w u):QFacts u q v:=⟨QnV.keep (Keep.upto hu (by simp)) h.val,h.sz,h.ins,h.big,h.fl,h.fn⟩
def EnvP (w:World):Prop:=Env w∧SEnv w∧FEnv w∧PEnv w
theorem EnvP.ext {w u:World} (h:EnvP w) (hu:Upto [] w u):EnvP u:=⟨h.1.ext hu,h.2.1.upto hu (by simp),h.2.2.1.ext hu,h.2.2.2.ext hu⟩
end Go.Proofs.YtkhbpebpljdifaaGreatDoor
