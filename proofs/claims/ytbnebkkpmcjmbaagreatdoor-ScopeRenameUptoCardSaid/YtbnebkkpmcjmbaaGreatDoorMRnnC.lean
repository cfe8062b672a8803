/- Texts merged, in build order: Lib, Nu, Sc, Se, Gd, Ge, Gf, Hb. -/
import Derived.Test.YtbnebkkpmcjmbaaGreatDoorMRng
namespace Go.PL
open Go.RowKit Go.MapKept
open Go.Maps (Keyed)
section
variable {P:Program} {k:TypeId} {w w':World} {b:Nat} {L:List (Value×Value)}
end
section
variable {P:Program} (w:World) {ops:Array Oper} {rest:List Oper} {o:Oper} {a:Act} {Q:Exit→Act→World→Prop}
end
section
variable {P:Program} (w:World)
end
section
variable {P:Program} (w:World)
end
def bv (b:UInt8):Value:=.int .u8 b.toNat
theorem conv_str {P:Program} {w:World} {src e dst:TypeId} (hs:P.underlying src=some (.slice e)) (he:P.underlying e=some (.int .u8)) (hd:P.underlying dst=some .string) {v:Value} {bs:List UInt8}
  (h:SlC w v (bs.map bv)):(convert src dst v).run P w=.ok (.string ⟨bs.toArray⟩) w:=by
 rcases h with⟨h0,a,c,rfl⟩ | ⟨g,o,c,rfl,hc⟩
 ·have hb:bs=[]:=by simpa using h0
  subst hb
  cases a with
  | none=>exact run_convert_bytes_nil w src e hs he 0 c dst hd
  | some a =>
   have hl:(loadCells a 0).run P w=.ok #[] w:=by simp [loadCells,loadCellsFrom]
   rw [run_convert_bytes_string w src dst e _ 0 c hs he hd,run_bytesToString w a 0 c [] (by simpa using hl)]
   rfl
 ·have:=run_convert_bytes_arg (P:=P) w src e hs he g o (bs.map bv).length c (bs.map fun b=>(b.toNat:Int)) (by simp) (fun i hi=>by
   simp at hi
   have:=hc i (bv bs[i]) (by simp [hi])
   rw [this]
   simp [bv,hi]) dst hd
  rw [this]
  congr 2
  simp only [strOfNums,List.map_map,Function.comp_def,Int.toNat_natCast,UInt8.ofNat_toNat,List.map_id']
section
variable {P:Program} (w:World) {o:Oper} {ac:Act} {Q:Exit→Act→World→Prop}
end
end Go.PL
namespace Go.Proofs.YtbnebkkpmcjmbaaGreatDoor
open Go.RowKit Go.PL Go.Maps
theorem conv_digit (wr:World) (m:Nat):(convert 124 9 (.slice (some ⟨wr.heap.size,0,none⟩) 1 1)).run Tryz.prog (wr.alloc (.cells #[.int .u8 (48+(m:Int) % 10)] 5))=.ok (.string ⟨[UInt8.ofNat (48+m % 10)].toArray⟩) (wr.alloc (.cells #[.int .u8 (48+(m:Int) % 10)] 5)):=by
 refine conv_str Tryz.underlying124 Tryz.underlying5 Tryz.underlying9 (Or.inr ⟨wr.heap.size,0,1,rfl,fun j u hj=>?_⟩)
 match j,hj with
 | 0,hj =>
  simp only [List.map_cons,List.getElem?_cons_zero,Option.some.injEq] at hj
  rw [←hj,cell_of (new_at _ _)]
  simp only [bv,digit_nat]
  rfl
 | j+1,hj=>simp at hj
def dgF:Nat→Nat→List UInt8→List UInt8
 | 0,_,s=>s
 | f+1,n,s=>if s=[]∨0<n then dgF f (n / 10) (UInt8.ofNat (48+n % 10)::s) else s
theorem dg_str (n:Nat) (s:List UInt8):((⟨#[48+UInt8.ofNat (n % 10)]⟩++⟨s.toArray⟩:ByteArray))=⟨(UInt8.ofNat (48+n % 10)::s).toArray⟩:=by
 rw [show (UInt8.ofNat (48+n % 10)::s)=[UInt8.ofNat (48+n % 10)]++s from rfl,byte_app,show UInt8.ofNat (48+n % 10)=48+UInt8.ofNat (n % 10) from by simp [UInt8.ofNat_add]]
theorem ext_min (s:List UInt8):((⟨s.toArray⟩:ByteArray).extract 0 (min (s.length:Int) 30).toNat)=⟨(s.take 30).toArray⟩:=by
 have he:=ext_to (s:=s) 0 (min s.length 30)
 rw [Nat.zero_add,List.drop_zero] at he
 rw [show (min (s.length:Int) 30).toNat=min s.length 30 by omega,he]
 congr 2
 rcases Nat.le_total s.length 30 with h | h
 ·rw [Nat.min_eq_left h,List.take_of_length_le h,List.take_of_length_le (Nat.le_refl _)]
 ·rw [Nat.min_eq_right h]
def PlP (P:Nat→Prop) (ls:List (List UInt8)) (w:World) (e:Ending) (w':World):Prop:=∃v,e=.returned v∧SlP w' (fun b=>P b∨New w b) v ls.length (ls.map sV)∧Upto [] w w'
set_option maxRecDepth 100000 in
set_option maxHeartbeats 3200000 in
theorem plus_calls (ls:List (List UInt8)) (x:List UInt8) (v:Value) (w:World) (P:Nat→Prop) (h:SlP w P v ls.length (ls.map sV)) (hl:ls.length≤1000000):Calls Tryz.prog 59 #[v,.string ⟨x.toArray⟩] w (PlP P (plusF ls x) w):=by
 obtain⟨a,c,rfl⟩:=h.len
 have HH:=Lib.hid (hasR_calls ls x _ w P h hl)
 have HS:=Lib.hid h
 obtain⟨i0,hi0,hz0,hz1,hz2⟩:=info9'
 have HI0:=Lib.hid hi0
 have HZ0:=Lib.hid hz0
 have HZ1:=Lib.hid hz1
 have HZ2:=Lib.hid hz2
 have HP:Hid (ls.contains x=true→plusF ls x=ls):=Lib.hid (fun hc=>plus_in (by simpa using hc))
 have HQ:Hid (ls.contains x=false→plusF ls x=ls++[x]):=Lib.hid (fun hc=>plus_out (by simpa using hc))
 generalize plusF ls x=R at *
 have HN:Hid (ls.length=ls.length):=Lib.hid rfl
 generalize hn:ls.length=n at *
 have hn0:(0:Int)≤n:=by omega
 have hn1:(n:Int)≤1000000:=by omega
 have HLN:=Lib.hid hn
 have HT0:Hid (TxI w [] (.slice (some ⟨w.heap.size,0,none⟩) 0 0) (w.alloc (.cells #[] 9))):=Lib.hid ⟨ownsRow_none w 9,fun g hg=>by simp [Value.ownBlock] at hg;omega,(Upto.refl [] w).alloc _⟩
 have hrow:=HT0.out.row
 have hslc:SlC (w.alloc (.cells #[] 9)) (.slice a n c) (ls.map sV):=by
  have:=HS.out.ext ((Upto.refl [] w).alloc (.cells #[] 9))
  rw [show n=(ls.map sV).length by rw [List.length_map,hn]] at this ⊢
  exact this.slc
 have HML:Hid ((ls.map sV).length=n):=Lib.hid (by rw [List.length_map,hn])
 clear h hi0 hz0 hz1 hz2 hn HN
 go_enter Tryz.func59,Tryz.ntmps59
 go_wp2_with fail
 refine HH.out.mono ?_
 rintro e w1 ⟨rfl,rfl⟩
 cases hc:ls.contains x with
 | true =>
  have HR:=Lib.hid (HP.out hc)
  clear hrow hslc hc
  go_wp2_with fail
  go_ret
  unfold PlP
  rw [HR.out,HLN.out]
  exact⟨_,rfl,HS.out.mono (fun b hb _=>Or.inl hb),Upto.refl _ _⟩
 | false =>
  have HR:=Lib.hid (HQ.out hc)
  clear hc
  go_wp2_with (at_builtin;first
   | (refine wpList_apps _ rfl (.tmp 9) (.tmp 10) 22 rfl 9 i0 (.string ⟨#[]⟩) 16 Tryz.underlying22 HI0.out HZ0.out HZ1.out HZ2.out rfl (.slice (some ⟨w1.heap.size,0,none⟩) 0 0) 0 _ rfl hrow (.slice a n c) (ls.map sV) rfl hslc (by simp [Value.oneCell',sV]) (by rw [HML.out];unfold maxLen;omega) (by rw [HML.out];omega) ?_;intro vb vd w3 ho hu hw;rw [HML.out] at ho hw;have HM:=Lib.hid (HT0.out.apps (ys:=ls) rfl HLN.out ho hu hw);rw [HML.out];clear hrow ho hu hw hslc;have HT4:Hid (TxI w1 ls (.slice vb (0+n) vd) (w3.alloc (.cells #[.string ⟨x.toArray⟩] 9))):=Lib.hid (HM.out.ext ((Upto.refl [] _).alloc _));have hrow2:=HT4.out.row;have hsrc2:=cells_at (l:=[sV x]) (new_at w3 (.cells #[.string ⟨x.toArray⟩] 9)))
   | (rw [Nat.zero_add] at *;rw [HLN.out] at hrow2;refine wpList_app _ rfl (.tmp 11) (.tmp 13) 22 rfl 9 i0 (.string ⟨#[]⟩) 1 16 Tryz.underlying22 HI0.out HZ0.out HZ1.out HZ2.out rfl (by decide) (.slice vb n vd) n _ rfl hrow2 ⟨w3.heap.size,0,none⟩ 1 1 [sV x] rfl rfl hsrc2 (by simp [Value.oneCell',sV]) (by unfold maxLen;omega) (by omega) ?_;intro vb2 vd2 w5 ho hu hw;have HM5:=Lib.hid (HT4.out.app HLN.out ho hu hw);clear hrow2 hsrc2 ho hu hw))
  go_ret
  unfold PlP
  rw [HR.out]
  refine⟨_,rfl,?_,HM5.out.up⟩
  have:=SlP.of_row (P:=fun b=>P b∨New w1 b) HM5.out.row (fun g hg=>Or.inr (HM5.out.own g hg))
  exact this
set_option maxRecDepth 100000 in
set_option maxHeartbeats 4000000 in
theorem freeRef_calls:∀(k:Nat) (nd:Nd),sizeF nd≤k→k≤10000000→goodN nd→nmsF nd≤100000→∀(v:Value) (w:World) (P:Nat→Prop),NdV w P nd v→Calls Tryz.prog 21 #[v] w (FqPost w (freeR nd))
 | 0,nd,hk,_,_,_,_,_,_,_=>by have:=sizeF_pos nd;omega
 | k+1,.mk op nms so nn mm l,hk,hk7,hgd,hnm,v,w,P,h=>by
  obtain⟨a1,c1,a2,c2,rfl,hs,hg⟩:=h.open
  unfold goodN at hgd
  have HGD:=Lib.hid hgd
  have HG:=Lib.hid hg
  have hsz:sizesF l≤k:=by simp only [sizeF] at hk;omega
  have HSZ:=Lib.hid hsz
  unfold nmsF at hnm
  have HNM:=Lib.hid hnm
  have HE:Hid (freeR (.mk op nms so nn mm l)=freesR l (bindsF op nms.length) (nms.headD []) ((usesF op nms).foldl plusF [])):=Lib.hid (by simp only [freeR])
  have HLEN:Hid (l.length≤10000000):=Lib.hid (by have:=sizes_len l;omega)
  have hlen:=HLEN.out
  have HBI:=Lib.hid (fun u=>bindsR_calls op a1 nms.length c1 so nn mm a2 l.length c2 u (fun h=>hgd.1 (by omega)))
  have HUS:=Lib.hid (fun u (hu:Upto [] w u)=>used_calls P op nms a1 c1 so nn mm a2 l.length c2 u (fun h=>hgd.1 (Or.inl h)) (hs.ext hu) (by omega))
  have HIH:=Lib.hid (fun (x:Nd) (hx:x∈l) (hs:sizeF x≤k) (hn:nmsF x≤100000)=>freeRef_calls k x hs (by omega) (goodsN_mem HGD.out.2 x hx) hn)
  obtain⟨W,hW⟩:∃W,W=w.alloc (.cells #[.int .i64 op,.slice a1 nms.length c1,.int .i64 so,.int .i64 nn,.int .i64 mm,.slice a2 l.length c2] 25):=⟨_,rfl⟩
  have HU1:Hid (Upto [] w W):=Lib.hid (by rw [hW];exact (Upto.refl [] w).alloc _)
  have HB1:Hid (W.heap[w.heap.size]?=some (.cells #[.int .i64 op,.slice a1 nms.length c1,.int .i64 so,.int .i64 nn,.int .i64 mm,.slice a2 l.length c2] 25 (0,0))):=Lib.hid (by rw [hW];exact new_at w _)
  have HUL:Hid ((usesF op nms).length≤nms.length):=Lib.hid (uses_len op nms)
  have HN0:Hid (bindsF op nms.length=true→∃g o,a1=some ⟨g,o,none⟩∧∀u,Upto [] w u→u.cell? ⟨g,o,none⟩=some (.string ⟨(nms.headD []).toArray⟩)):=Lib.hid (fun hb=>by
   cases nms with
   | nil=>unfold bindsF at hb;simp at hb
   | cons x r=>exact slp_cell hs rfl 0 x rfl)
  have HNL:Hid (bindsF op nms.length=true→0<nms.length):=Lib.hid (fun hb=>by unfold bindsF at hb;simp at hb;omega)
  generalize hbb:bindsF op nms.length=bb at *
  generalize hnm0:nms.headD []=nm at *
  generalize hlu:usesF op nms=lu at *
  have HPL:=Lib.hid (fun (ls:List (List UInt8)) (x:List UInt8) (v:Value) (u:World) (h:RowW W ls v u) (hl:ls.length≤1000000)=>plus_calls ls x v u (New W) h.slp hl)
  obtain⟨x0,x1,x2,x3,x4,x5⟩:=cells6 HB1.out
  generalize hnl:nms.length=nl at *
  generalize hll:l.length=ll at *
  have HLL:=Lib.hid hll
  have HLU:=Lib.hid hlu
  have hL0:(0:Int)≤ll:=by omega
  have hL1:(ll:Int)≤10000000:=by omega
  clear h hg hs hsz hll hlen hk hgd hbb hnm0 hlu hnl hnm
  go_enter Tryz.func21,Tryz.ntmps21
  go_wp2_with fail
  simp only [←hW]
  clear hW
  go_wp2_with fail
  refine (HUS.out _ HU1.out).mono ?_
  rintro e w2 ⟨vu,rfl,hsu,hu2⟩
  rw [HLU.out] at hsu
  obtain⟨au,cu,rfl⟩:=hsu.len
  have HSU:=Lib.hid hsu
  have HU2:=Lib.hid hu2
  have HB2:=Lib.hid (hu2.at HB1.out (by simp))
  generalize hln:lu.length=n at *
  have HLN:=Lib.hid hln
  have hn0:(0:Int)≤n:=by omega
  have hn1:(n:Int)≤1000000:=by have:=HUL.out;have:=HNM.out;omega
  clear hu2 hsu x0 x1 x2 x3 x4 x5 hln
  go_wp2_with fail
  go_loopw [3,5] (fun s i wr=>∃(j m:Nat) (va:Option Addr) (vc:Nat),j≤n∧i=.int .i64 j∧s=.slice va m vc∧Hid (RowW W ((lu.take j).foldl plusF []) (.slice va m vc) wr∧m=((lu.take j).foldl plusF []).length)∧Hid (Upto [] w2 wr)) (fun _ i _=>n-(intOf i).toNat)
  case atStart=>exact⟨0,0,none,0,by omega,rfl,rfl,Lib.hid ⟨by simpa using RowW.nil W w2 HU2.out,by simp⟩,Lib.hid (Upto.refl _ _)⟩
  case round =>
   obtain⟨j,m,va,vc,hj,rfl,rfl,HR,HU⟩:=hrel
   have hj0:(0:Int)≤j:=by omega
   rcases Nat.lt_or_ge j n with hlt | hge
   ·obtain⟨y,hy⟩:∃y,lu[j]?=some y:=⟨_,List.getElem?_eq_getElem (by have:=HLN.out;omega)⟩
    obtain⟨g,o,rfl,hcell⟩:=slp_cell HSU.out HLN.out j y hy
    have hc:=hcell wr HU.out
    have hltI:(j:Int)<n:=by omega
    have HNX:Hid ((lu.take (j+1)).foldl plusF []=plusF ((lu.take j).foldl plusF []) y):=Lib.hid (by rw [take_app1 lu j y hy,List.foldl_append];rfl)
    have HCL:=Lib.hid (HPL.out _ y _ wr HR.out.1 (by have h1:=fold_len (lu.take j) [];have h2:=HLN.out;simp at h1;omega))
    clear hcell hy
    go_wp2_with fail
    refine HCL.out.mono ?_
    rintro e w5 ⟨v5,rfl,hs5,hu5⟩
    have HR5:=Lib.hid (HR.out.1.of (_P:=New W) hs5 hu5)
    obtain⟨a5,c5,rfl⟩:=hs5.len
    have HU5:=Lib.hid (HU.out.trans_ext hu5)
    clear hu5 hs5
    go_wp2_with fail
    go_roundw
    case rel=>exact⟨j+1,_,a5,c5,by omega,by go_num,rfl,Lib.hid (by rw [HNX.out];exact⟨HR5.out,rfl⟩),HU5⟩
    case measure=>simp [intOf];omega
   ·obtain rfl:j=n:=by omega
    have hgeI:¬(j:Int)<j:=by omega
    have HT:Hid (lu.take j=lu):=Lib.hid (by rw [←HLN.out,List.take_length])
    rw [HT.out] at HR
    have HO1:Hid ((lu.foldl plusF []).length≤nl):=Lib.hid (by have:=fold_len lu [];have:=HLN.out;have:=HUL.out;simp at *;omega)
    generalize lu.foldl plusF []=out1 at *
    have HU3:=Lib.hid ((HU1.out.trans_ext HU2.out).trans_ext HU.out)
    have HB3:=Lib.hid (HU.out.at HB2.out (by simp))
    have HR3:=Lib.hid HR.out.1
    have hm:=HR.out.2
    subst hm
    clear HR HU HSU HT
    go_wp2_with fail
    go_loopw [3,6] (fun s i wq=>∃(q m:Nat) (va:Option Addr) (vc:Nat),q≤ll∧i=.int .i64 q∧s=.slice va m vc∧Hid (RowW W (freesR (l.take q) bb nm out1) (.slice va m vc) wq∧m=(freesR (l.take q) bb nm out1).length)∧Hid (Upto [] wr wq)) (fun _ i _=>ll-(intOf i).toNat)
    case atStart=>exact⟨0,_,va,vc,by omega,rfl,rfl,Lib.hid ⟨by simpa [freesR] using HR3.out,by simp [freesR]⟩,Lib.hid (Upto.refl _ _)⟩
    case round =>
     obtain⟨q,m,vb,vd,hq,rfl,rfl,HR,HV⟩:=hrel
     have hq0:(0:Int)≤q:=by omega
     have HBB:=Lib.hid (HV.out.at HB3.out (by simp))
     have x5:=cell_of HBB.out 5
     simp only [List.getElem?_toArray,List.getElem?_cons_zero,List.getElem?_cons_succ] at x5
     rcases Nat.lt_or_ge q ll with hlt | hge
     ·obtain⟨x,hx⟩:∃x,l[q]?=some x:=⟨_,List.getElem?_eq_getElem (by have:=HLL.out;omega)⟩
      obtain⟨g,o,xo,xn1,xn2,xn3,xs,xm,xq,xl1,xl2,xl3,rfl,d0,d1,d2,d3,d4,d5,hnx⟩:=HG.out q x hx
      have hw:=HU3.out.trans_ext HV.out
      replace d0:=up_cell hw d0
      replace d1:=up_cell hw d1
      replace d2:=up_cell hw d2
      replace d3:=up_cell hw d3
      replace d4:=up_cell hw d4
      replace d5:=up_cell hw d5
      have HST:=Lib.hid (sizesF_take l q x hx)
      have HNT:=Lib.hid (nmss_take l q x hx)
      have HC:=Lib.hid (HIH.out x (List.mem_of_getElem? hx) (by have:=HSZ.out;have:=HST.out;omega) (by have:=HNM.out;have:=HNT.out;omega) _ wr P (hnx.ext hw))
      have hltI:(q:Int)<ll:=by omega
      have HNX:Hid (freesR (l.take (q+1)) bb nm out1=takeR bb nm (freeR x) (freesR (l.take q) bb nm out1)):=Lib.hid (by rw [take_app1 l q x hx];exact freesR_app bb nm x _ _)
      have HFL:=Lib.hid (freeR_len x)
      have HOL:Hid ((freesR (l.take q) bb nm out1).length+(freeR x).length≤100000):=Lib.hid (by have h1:=freesR_len (l.take q) bb nm out1;have h2:=HNT.out;have h3:=HFL.out;have h4:=HO1.out;have h5:=HNM.out;omega)
      clear hnx hx hw
      go_wp2_with fail
      refine HC.out.mono ?_
      rintro e w5 ⟨v7,rfl,hr7⟩
      obtain⟨a7,c7,rfl⟩:=hr7.slp.len
      have HS7:=Lib.hid hr7.slp
      have HU5:=Lib.hid (HV.out.trans_ext hr7.up)
      have HR5:=Lib.hid (HR.out.1.ext hr7.up)
      have hmm:=HR.out.2
      generalize hlc:freeR x=lc at *
      generalize hfq:freesR (l.take q) bb nm out1=fq at *
      subst hmm
      clear hr7 hlc hfq HR
      generalize hln7:lc.length=n7 at *
      have HL7:=Lib.hid hln7
      have hn70:(0:Int)≤n7:=by omega
      have hn71:(n7:Int)≤1000000:=by have:=HOL.out;omega
      have HB5:=Lib.hid (HU5.out.at HB3.out (by simp))
      clear hln7 d0 d1 d2 d3 d4 d5 x5
      go_wp2_with fail
      go_loopw [3,8] (fun s i wz=>∃(z m:Nat) (va:Option Addr) (vc:Nat),z≤n7∧i=.int .i64 z∧s=.slice va m vc∧Hid (RowW W (takeR bb nm (lc.take z) fq) (.slice va m vc) wz∧m=(takeR bb nm (lc.take z) fq).length)∧Hid (Upto [] w5 wz)) (fun _ i _=>n7-(intOf i).toNat)
      case atStart=>exact⟨0,_,vb,vd,by omega,rfl,rfl,Lib.hid ⟨by simpa [takeR] using HR5.out,by simp [takeR]⟩,Lib.hid (Upto.refl _ _)⟩
      case round =>
       obtain⟨z,m,vb2,vd2,hz,rfl,rfl,HR6,HZ⟩:=hrel
       have hz0:(0:Int)≤z:=by omega
       rcases Nat.lt_or_ge z n7 with hlt | hge
       ·obtain⟨y,hy⟩:∃y,lc[z]?=some y:=⟨_,List.getElem?_eq_getElem (by have:=HL7.out;omega)⟩
        obtain⟨g7,o7,rfl,hcell⟩:=slp_cell HS7.out HL7.out z y hy
        have hltI:(z:Int)<n7:=by omega
        have HNZ:Hid (takeR bb nm (lc.take (z+1)) fq=if bb=false∨y≠nm then plusF (takeR bb nm (lc.take z) fq) y else takeR bb nm (lc.take z) fq):=Lib.hid (by rw [take_app1 lc z y hy];exact takeR_app bb nm y _ _)
        have HLZ:Hid ((takeR bb nm (lc.take z) fq).length≤1000000):=Lib.hid (by have h1:=takeR_len bb nm (lc.take z) fq;have h2:=HOL.out;have h3:=HL7.out;have h4:=List.length_take_le z lc;omega)
        have HB6:=Lib.hid (HZ.out.at HB5.out (by simp))
        have HCL:=Lib.hid (fun u (hu:Upto [] wr u)=>HPL.out _ y _ u (HR6.out.1.ext hu) HLZ.out)
        have e0:∀u:Ext wr,u.w.cell? ⟨w.heap.size,0,none⟩=some (.int .i64 op):=fun u=>u.cell (cell_of HB6.out 0)
        have e1:∀u:Ext wr,u.w.cell? ⟨w.heap.size,1,none⟩=some (.slice a1 nl c1):=fun u=>u.cell (cell_of HB6.out 1)
        have e2:∀u:Ext wr,u.w.cell? ⟨w.heap.size,2,none⟩=some (.int .i64 so):=fun u=>u.cell (cell_of HB6.out 2)
        have e3:∀u:Ext wr,u.w.cell? ⟨w.heap.size,3,none⟩=some (.int .i64 nn):=fun u=>u.cell (cell_of HB6.out 3)
        have e4:∀u:Ext wr,u.w.cell? ⟨w.heap.size,4,none⟩=some (.int .i64 mm):=fun u=>u.cell (cell_of HB6.out 4)
        have e5:∀u:Ext wr,u.w.cell? ⟨w.heap.size,5,none⟩=some (.slice (some ⟨g,o,none⟩) ll c2):=fun u=>u.cell (cell_of HB6.out 5)
        have e7:∀u:Ext wr,u.w.cell? ⟨g7,o7+z,none⟩=some (.string ⟨y.toArray⟩):=fun u=>hcell u.w (HZ.out.trans_ext u.up)
        have hcell7:∀u,Upto [] wr u→u.cell? ⟨g7,o7+z,none⟩=some (.string ⟨y.toArray⟩):=fun u hu=>hcell u (HZ.out.trans_ext hu)
        clear hcell hy
        cases bb with
        | false =>
         go_wp2_with fail
         refine wp_region_seg_all [1] [] [0,1,2,3,4,5,6,7,8,9,10,11,12,13] (by kernel_rfl) (by kernel_rfl) ?_
         with_reducible refine seg_plain (o:=?o1) ?hi1 ?hA1 ?hC1 ?hp1 ?hw1 ?h1
         case hi1=>rfl
         case hA1=>rfl
         case hC1=>rfl
         case hp1=>rfl
         case hw1=>kernel_rfl
         intro K' hK'
         go_big_quiet_op
         go_big_quiet_on
         refine seg_call (f:=48) (args:=#[.agg #[.int .i64 op,.slice a1 nl c1,.int .i64 so,.int .i64 nn,.int .i64 mm,.slice (some ⟨g,o,none⟩) ll c2]]) (v:=.bool false) rfl rfl rfl rfl (fun w=>by go_simp) (fun w hu hd=>HBI.out w) ?_
         simp only [Act.put,List.setIfInBounds_toArray,List.set_cons_zero,List.set_cons_succ]
         with_reducible refine seg_plain (o:=?o2) ?hi2 ?hA2 ?hC2 ?hp2 ?hw2 ?h2
         case hi2=>rfl
         case hA2=>rfl
         case hC2=>rfl
         case hp2=>rfl
         case hw2=>kernel_rfl
         intro K' hK'
         go_big_quiet_op
         go_big_quiet_on
         with_reducible refine seg_plain (o:=?o3) ?hi3 ?hA3 ?hC3 ?hp3 ?hw3 ?h3
         case hi3=>rfl
         case hA3=>rfl
         case hC3=>rfl
         case hp3=>rfl
         case hw3=>kernel_rfl
         intro K' hK'
         go_big_quiet_op
         go_big_quiet_on
         with_reducible refine seg_skip (o:=?o4) ?hi4 ?hw4 ?h4
         case hi4=>rfl
         case hw4=>kernel_rfl
         simp only [Act.put,List.setIfInBounds_toArray,List.set_cons_zero,List.set_cons_succ]
         with_reducible refine seg_skip (o:=?o5) ?hi5 ?hw5 ?h5
         case hi5=>rfl
         case hw5=>kernel_rfl
         simp only [Act.put,List.setIfInBounds_toArray,List.set_cons_zero,List.set_cons_succ]
         with_reducible refine seg_skip (o:=?o6) ?hi6 ?hw6 ?h6
         case hi6=>rfl
         case hw6=>kernel_rfl
         simp only [Act.put,List.setIfInBounds_toArray,List.set_cons_zero,List.set_cons_succ]
         with_reducible refine seg_skip (o:=?o7) ?hi7 ?hw7 ?h7
         case hi7=>rfl
         case hw7=>kernel_rfl
         simp only [Act.put,List.setIfInBounds_toArray,List.set_cons_zero,List.set_cons_succ]
         with_reducible refine seg_skip (o:=?o8) ?hi8 ?hw8 ?h8
         case hi8=>rfl
         case hw8=>kernel_rfl
         simp only [Act.put,List.setIfInBounds_toArray,List.set_cons_zero,List.set_cons_succ]
         with_reducible refine seg_skip (o:=?o9) ?hi9 ?hw9 ?h9
         case hi9=>rfl
         case hw9=>kernel_rfl
         simp only [Act.put,List.setIfInBounds_toArray,List.set_cons_zero,List.set_cons_succ]
         with_reducible refine seg_skip (o:=?o10) ?hi10 ?hw10 ?h10
         case hi10=>rfl
         case hw10=>kernel_rfl
         simp only [Act.put,List.setIfInBounds_toArray,List.set_cons_zero,List.set_cons_succ]
         with_reducible refine seg_skip (o:=?o11) ?hi11 ?hw11 ?h11
         case hi11=>rfl
         case hw11=>kernel_rfl
         simp only [Act.put,List.setIfInBounds_toArray,List.set_cons_zero,List.set_cons_succ]
         with_reducible refine seg_skip (o:=?o12) ?hi12 ?hw12 ?h12
         case hi12=>rfl
         case hw12=>kernel_rfl
         simp only [Act.put,List.setIfInBounds_toArray,List.set_cons_zero,List.set_cons_succ]
         with_reducible refine seg_plain (o:=?o13) ?hi13 ?hA13 ?hC13 ?hp13 ?hw13 ?h13
         case hi13=>rfl
         case hA13=>rfl
         case hC13=>rfl
         case hp13=>rfl
         case hw13=>kernel_rfl
         intro K' hK'
         go_big_quiet_op
         go_big_quiet_on
         have HCO:Hid (false=false∨y≠nm):=Lib.hid (Or.inl rfl)
         intro w9 hg
         have HU9:=Lib.hid hg.up
         have hc7:=hcell7 w9 HU9.out
         clear hg e0 e1 e2 e3 e4 e5 e7
         go_wp2_with fail
         refine (HCL.out w9 HU9.out).mono ?_
         rintro e wa ⟨va,rfl,hsa,hua⟩
         have HRA:=Lib.hid ((HR6.out.1.ext HU9.out).of (_P:=New W) hsa hua)
         obtain⟨aa,ca,rfl⟩:=hsa.len
         have HUA:=Lib.hid ((HZ.out.trans_ext HU9.out).trans_ext hua)
         clear hua hsa
         go_wp2_with fail
         go_roundw
         case rel=>exact⟨z+1,_,aa,ca,by omega,by go_num,rfl,Lib.hid (by rw [HNZ.out,if_pos HCO.out];exact⟨HRA.out,rfl⟩),HUA⟩
         case measure=>simp [intOf];omega
        | true =>
         obtain⟨gn,on,rfl,hcn⟩:=HN0.out rfl
         have en:∀u:Ext wr,u.w.cell? ⟨gn,on,none⟩=some (.string ⟨nm.toArray⟩):=fun u=>hcn u.w (((HU3.out.trans_ext HU5.out).trans_ext HZ.out).trans_ext u.up)
         have hnl0:=HNL.out rfl
         have hnl1:(0:Int)<nl:=by omega
         clear hcn
         by_cases hyn:y=nm
         ·have HCO:Hid (¬(true=false∨y≠nm)):=Lib.hid (by simp [hyn])
          subst hyn
          go_wp2_with fail
          refine wp_region_seg_all [1] [] [0,1,2,3,4,5,6,7,8,9,10,11,12,13] (by kernel_rfl) (by kernel_rfl) ?_
          with_reducible refine seg_plain (o:=?o14) ?hi14 ?hA14 ?hC14 ?hp14 ?hw14 ?h14
          case hi14=>rfl
          case hA14=>rfl
          case hC14=>rfl
          case hp14=>rfl
          case hw14=>kernel_rfl
          intro K' hK'
          go_big_quiet_op
          go_big_quiet_on
          refine seg_call (f:=48) (args:=#[.agg #[.int .i64 op,.slice (some ⟨gn,on,none⟩) nl c1,.int .i64 so,.int .i64 nn,.int .i64 mm,.slice (some ⟨g,o,none⟩) ll c2]]) (v:=.bool true) rfl rfl rfl rfl (fun w=>by go_simp) (fun w hu hd=>HBI.out w) ?_
          simp only [Act.put,List.setIfInBounds_toArray,List.set_cons_zero,List.set_cons_succ]
          with_reducible refine seg_plain (o:=?o15) ?hi15 ?hA15 ?hC15 ?hp15 ?hw15 ?h15
          case hi15=>rfl
          case hA15=>rfl
          case hC15=>rfl
          case hp15=>rfl
          case hw15=>kernel_rfl
          intro K' hK'
          go_big_quiet_op
          go_big_quiet_on
          with_reducible refine seg_plain (o:=?o16) ?hi16 ?hA16 ?hC16 ?hp16 ?hw16 ?h16
          case hi16=>rfl
          case hA16=>rfl
          case hC16=>rfl
          case hp16=>rfl
          case hw16=>kernel_rfl
          intro K' hK'
          go_big_quiet_op
          go_big_quiet_on
          with_reducible refine seg_plain (o:=?o17) ?hi17 ?hA17 ?hC17 ?hp17 ?hw17 ?h17
          case hi17=>rfl
          case hA17=>rfl
          case hC17=>rfl
          case hp17=>rfl
          case hw17=>kernel_rfl
          intro K' hK'
          go_big_quiet_op
          go_big_quiet_on
          with_reducible refine seg_plain (o:=?o18) ?hi18 ?hA18 ?hC18 ?hp18 ?hw18 ?h18
          case hi18=>rfl
          case hA18=>rfl
          case hC18=>rfl
          case hp18=>rfl
          case hw18=>kernel_rfl
          intro K' hK'
          go_big_quiet_op
          go_big_quiet_on
          with_reducible refine seg_plain (o:=?o19) ?hi19 ?hA19 ?hC19 ?hp19 ?hw19 ?h19
          case hi19=>rfl
          case hA19=>rfl
          case hC19=>rfl
          case hp19=>rfl
          case hw19=>kernel_rfl
          intro K' hK'
          go_big_quiet_op
          go_big_quiet_on
          with_reducible refine seg_plain (o:=?o20) ?hi20 ?hA20 ?hC20 ?hp20 ?hw20 ?h20
          case hi20=>rfl
          case hA20=>rfl
          case hC20=>rfl
          case hp20=>rfl
          case hw20=>kernel_rfl
          intro K' hK'
          go_big_quiet_op
          go_big_quiet_on
          with_reducible refine seg_plain (o:=?o21) ?hi21 ?hA21 ?hC21 ?hp21 ?hw21 ?h21
          case hi21=>rfl
          case hA21=>rfl
          case hC21=>rfl
          case hp21=>rfl
          case hw21=>kernel_rfl
          intro K' hK'
          go_big_quiet_op
          go_big_quiet_on
          with_reducible refine seg_plain (o:=?o22) ?hi22 ?hA22 ?hC22 ?hp22 ?hw22 ?h22
          case hi22=>rfl
          case hA22=>rfl
          case hC22=>rfl
          case hp22=>rfl
          case hw22=>kernel_rfl
          intro K' hK'
          go_big_quiet_op
          go_big_quiet_on
          with_reducible refine seg_plain (o:=?o23) ?hi23 ?hA23 ?hC23 ?hp23 ?hw23 ?h23
          case hi23=>rfl
          case hA23=>rfl
          case hC23=>rfl
          case hp23=>rfl
          case hw23=>kernel_rfl
          intro K' hK'
          go_big_quiet_op
          go_big_quiet_on
          with_reducible refine seg_plain (o:=?o24) ?hi24 ?hA24 ?hC24 ?hp24 ?hw24 ?h24
          case hi24=>rfl
          case hA24=>rfl
          case hC24=>rfl
          case hp24=>rfl
          case hw24=>kernel_rfl
          intro K' hK'
          go_big_quiet_op
          go_big_quiet_on
          with_reducible refine seg_plain (o:=?o25) ?hi25 ?hA25 ?hC25 ?hp25 ?hw25 ?h25
          case hi25=>rfl
          case hA25=>rfl
          case hC25=>rfl
          case hp25=>rfl
          case hw25=>kernel_rfl
          intro K' hK'
          go_big_quiet_op
          go_big_quiet_on
          with_reducible refine seg_plain (o:=?o26) ?hi26 ?hA26 ?hC26 ?hp26 ?hw26 ?h26
          case hi26=>rfl
          case hA26=>rfl
          case hC26=>rfl
          case hp26=>rfl
          case hw26=>kernel_rfl
          intro K' hK'
          go_big_quiet_op
          go_big_quiet_on
          intro w9 hg
          have HU9:=Lib.hid hg.up
          have hc7:=hcell7 w9 HU9.out
          clear hg e0 e1 e2 e3 e4 e5 e7 en
          have HRA:=Lib.hid (HR6.out.1.ext HU9.out)
          have HUA:=Lib.hid (HZ.out.trans_ext HU9.out)
          go_wp2_with fail
          go_roundw
          case rel=>exact⟨z+1,m,vb2,vd2,by omega,by go_num,rfl,Lib.hid (by rw [HNZ.out,if_neg HCO.out];exact⟨HRA.out,HR6.out.2⟩),HUA⟩
          case measure=>simp [intOf];omega
         ·have HCO:Hid (true=false∨y≠nm):=Lib.hid (Or.inr hyn)
          have hb1:(y==nm)=false:=by rw [beq_eq_false_iff_ne];exact hyn
          have hb2:(y != nm)=true:=by rw [bne_iff_ne];exact hyn
          go_wp2_with fail
          refine wp_region_seg_all [1] [] [0,1,2,3,4,5,6,7,8,9,10,11,12,13] (by kernel_rfl) (by kernel_rfl) ?_
          with_reducible refine seg_plain (o:=?o27) ?hi27 ?hA27 ?hC27 ?hp27 ?hw27 ?h27
          case hi27=>rfl
          case hA27=>rfl
          case hC27=>rfl
          case hp27=>rfl
          case hw27=>kernel_rfl
          intro K' hK'
          go_big_quiet_op
          go_big_quiet_on
          refine seg_call (f:=48) (args:=#[.agg #[.int .i64 op,.slice (some ⟨gn,on,none⟩) nl c1,.int .i64 so,.int .i64 nn,.int .i64 mm,.slice (some ⟨g,o,none⟩) ll c2]]) (v:=.bool true) rfl rfl rfl rfl (fun w=>by go_simp) (fun w hu hd=>HBI.out w) ?_
          simp only [Act.put,List.setIfInBounds_toArray,List.set_cons_zero,List.set_cons_succ]
          with_reducible refine seg_plain (o:=?o28) ?hi28 ?hA28 ?hC28 ?hp28 ?hw28 ?h28
          case hi28=>rfl
          case hA28=>rfl
          case hC28=>rfl
          case hp28=>rfl
          case hw28=>kernel_rfl
          intro K' hK'
          go_big_quiet_op
          go_big_quiet_on
          with_reducible refine seg_plain (o:=?o29) ?hi29 ?hA29 ?hC29 ?hp29 ?hw29 ?h29
          case hi29=>rfl
          case hA29=>rfl
          case hC29=>rfl
          case hp29=>rfl
          case hw29=>kernel_rfl
          intro K' hK'
          go_big_quiet_op
          go_big_quiet_on
          with_reducible refine seg_plain (o:=?o30) ?hi30 ?hA30 ?hC30 ?hp30 ?hw30 ?h30
          case hi30=>rfl
          case hA30=>rfl
          case hC30=>rfl
          case hp30=>rfl
          case hw30=>kernel_rfl
          intro K' hK'
          go_big_quiet_op
          go_big_quiet_on
          with_reducible refine seg_plain (o:=?o31) ?hi31 ?hA31 ?hC31 ?hp31 ?hw31 ?h31
          case hi31=>rfl
          case hA31=>rfl
          case hC31=>rfl
          case hp31=>rfl
          case hw31=>kernel_rfl
          intro K' hK'
          go_big_quiet_op
          go_big_quiet_on
          with_reducible refine seg_plain (o:=?o32) ?hi32 ?hA32 ?hC32 ?hp32 ?hw32 ?h32
          case hi32=>rfl
          case hA32=>rfl
          case hC32=>rfl
          case hp32=>rfl
          case hw32=>kernel_rfl
          intro K' hK'
          go_big_quiet_op
          go_big_quiet_on
          with_reducible refine seg_plain (o:=?o33) ?hi33 ?hA33 ?hC33 ?hp33 ?hw33 ?h33
          case hi33=>rfl
          case hA33=>rfl
          case hC33=>rfl
          case hp33=>rfl
          case hw33=>kernel_rfl
          intro K' hK'
          go_big_quiet_op
          go_big_quiet_on
          with_reducible refine seg_plain (o:=?o34) ?hi34 ?hA34 ?hC34 ?hp34 ?hw34 ?h34
          case hi34=>rfl
          case hA34=>rfl
          case hC34=>rfl
          case hp34=>rfl
          case hw34=>kernel_rfl
          intro K' hK'
          go_big_quiet_op
          go_big_quiet_on
          with_reducible refine seg_plain (o:=?o35) ?hi35 ?hA35 ?hC35 ?hp35 ?hw35 ?h35
          case hi35=>rfl
          case hA35=>rfl
          case hC35=>rfl
          case hp35=>rfl
          case hw35=>kernel_rfl
          intro K' hK'
          go_big_quiet_op
          go_big_quiet_on
          with_reducible refine seg_plain (o:=?o36) ?hi36 ?hA36 ?hC36 ?hp36 ?hw36 ?h36
          case hi36=>rfl
          case hA36=>rfl
          case hC36=>rfl
          case hp36=>rfl
          case hw36=>kernel_rfl
          intro K' hK'
          go_big_quiet_op
          go_big_quiet_on
          with_reducible refine seg_plain (o:=?o37) ?hi37 ?hA37 ?hC37 ?hp37 ?hw37 ?h37
          case hi37=>rfl
          case hA37=>rfl
          case hC37=>rfl
          case hp37=>rfl
          case hw37=>kernel_rfl
          intro K' hK'
          go_big_quiet_op
          go_big_quiet_on
          with_reducible refine seg_plain (o:=?o38) ?hi38 ?hA38 ?hC38 ?hp38 ?hw38 ?h38
          case hi38=>rfl
          case hA38=>rfl
          case hC38=>rfl
          case hp38=>rfl
          case hw38=>kernel_rfl
          intro K' hK'
          go_big_quiet_op
          go_big_quiet_on
          with_reducible refine seg_plain (o:=?o39) ?hi39 ?hA39 ?hC39 ?hp39 ?hw39 ?h39
          case hi39=>rfl
          case hA39=>rfl
          case hC39=>rfl
          case hp39=>rfl
          case hw39=>kernel_rfl
          intro K' hK'
          go_big_quiet_op
          go_big_quiet_on
          intro w9 hg
          have HU9:=Lib.hid hg.up
          have hc7:=hcell7 w9 HU9.out
          clear hg e0 e1 e2 e3 e4 e5 e7 en
          go_wp2_with fail
          refine (HCL.out w9 HU9.out).mono ?_
          rintro e wa ⟨va,rfl,hsa,hua⟩
          have HRA:=Lib.hid ((HR6.out.1.ext HU9.out).of (_P:=New W) hsa hua)
          obtain⟨aa,ca,rfl⟩:=hsa.len
          have HUA:=Lib.hid ((HZ.out.trans_ext HU9.out).trans_ext hua)
          clear hua hsa
          go_wp2_with fail
          go_roundw
          case rel=>exact⟨z+1,_,aa,ca,by omega,by go_num,rfl,Lib.hid (by rw [HNZ.out,if_pos HCO.out];exact⟨HRA.out,rfl⟩),HUA⟩
          case measure=>simp [intOf];omega
       ·obtain rfl:z=n7:=by omega
        have hgeI:¬(z:Int)<z:=by omega
        have HT7:Hid (lc.take z=lc):=Lib.hid (by rw [←HL7.out,List.take_length])
        rw [HT7.out] at HR6
        have HUZ:=Lib.hid (HU5.out.trans_ext HZ.out)
        go_wp2_with fail
        go_roundw
        case rel=>exact⟨q+1,m,vb2,vd2,by omega,by go_num,rfl,Lib.hid (by rw [HNX.out];exact HR6.out),HUZ⟩
        case measure=>simp [intOf];omega
     ·obtain rfl:q=ll:=by omega
      have hgeI:¬(q:Int)<q:=by omega
      have HT:Hid (l.take q=l):=Lib.hid (by rw [←HLL.out,List.take_length])
      rw [HT.out] at HR
      go_wp2_with fail
      go_ret
      unfold FqPost
      rw [HE.out]
      exact⟨_,rfl,⟨HR.out.1.slp.mono (fun b hb _=>Nat.le_trans HU1.out.size hb),HU1.out.trans_ext HR.out.1.up⟩⟩
theorem boundsR_len (l:List Nd) (out:List (List UInt8)):(boundsR l out).length≤out.length+sizesF l:=by
 rw [boundsR_eq]
 have:=fold_len (boccs l) out
 have:=boccs_len l
 omega
theorem boundsR_app (x:Nd):∀(l:List Nd) (out:List (List UInt8)),boundsR (l++[x]) out=(boundR x).foldl plusF (boundsR l out)
 | [],out=>by simp [boundsR]
 | y::ys,out=>by
  rw [List.cons_append]
  unfold boundsR
  exact boundsR_app x ys _
set_option maxRecDepth 100000 in
set_option maxHeartbeats 6400000 in
theorem boundRef_calls:∀(k:Nat) (nd:Nd),sizeF nd≤k→k≤100000→goodN nd→∀(v:Value) (w:World) (P:Nat→Prop),NdV w P nd v→Calls Tryz.prog 25 #[v] w (FqPost w (boundR nd))
 | 0,nd,hk,_,_,_,_,_,_=>by have:=sizeF_pos nd;omega
 | k+1,.mk op nms so nn mm l,hk,hk7,hgd,v,w,P,h=>by
  obtain⟨a1,c1,a2,c2,rfl,hs,hg⟩:=h.open
  unfold goodN at hgd
  have HGD:=Lib.hid hgd
  have HG:=Lib.hid hg
  have hsz:sizesF l≤k:=by simp only [sizeF] at hk;omega
  have HSZ:=Lib.hid hsz
  have HE:Hid (boundR (.mk op nms so nn mm l)=boundsR l (if bindsF op nms.length=true then plusF [] (nms.headD []) else [])):=Lib.hid (by simp only [boundR])
  have HLEN:Hid (l.length≤100000):=Lib.hid (by have:=sizes_len l;omega)
  have hlen:=HLEN.out
  have HBI:=Lib.hid (fun u=>bindsR_calls op a1 nms.length c1 so nn mm a2 l.length c2 u (fun h=>hgd.1 (by omega)))
  have HIH:=Lib.hid (fun (x:Nd) (hx:x∈l) (hs:sizeF x≤k)=>boundRef_calls k x hs (by omega) (goodsN_mem HGD.out.2 x hx))
  obtain⟨W,hW⟩:∃W,W=w.alloc (.cells #[.int .i64 op,.slice a1 nms.length c1,.int .i64 so,.int .i64 nn,.int .i64 mm,.slice a2 l.length c2] 25):=⟨_,rfl⟩
  have HU1:Hid (Upto [] w W):=Lib.hid (by rw [hW];exact (Upto.refl [] w).alloc _)
  have HB1:Hid (W.heap[w.heap.size]?=some (.cells #[.int .i64 op,.slice a1 nms.length c1,.int .i64 so,.int .i64 nn,.int .i64 mm,.slice a2 l.length c2] 25 (0,0))):=Lib.hid (by rw [hW];exact new_at w _)
  have HN0:Hid (bindsF op nms.length=true→∃g o,a1=some ⟨g,o,none⟩∧∀u,Upto [] w u→u.cell? ⟨g,o,none⟩=some (.string ⟨(nms.headD []).toArray⟩)):=Lib.hid (fun hb=>by
   cases nms with
   | nil=>unfold bindsF at hb;simp at hb
   | cons x r=>exact slp_cell hs rfl 0 x rfl)
  have HNL:Hid (bindsF op nms.length=true→0<nms.length):=Lib.hid (fun hb=>by unfold bindsF at hb;simp at hb;omega)
  generalize hbb:bindsF op nms.length=bb at *
  generalize hnm0:nms.headD []=nm at *
  have HPL:=Lib.hid (fun (ls:List (List UInt8)) (x:List UInt8) (v:Value) (u:World) (h:RowW W ls v u) (hl:ls.length≤1000000)=>plus_calls ls x v u (New W) h.slp hl)
  obtain⟨x0,x1,x2,x3,x4,x5⟩:=cells6 HB1.out
  generalize hnl:nms.length=nl at *
  generalize hll:l.length=ll at *
  have HLL:=Lib.hid hll
  have hL0:(0:Int)≤ll:=by omega
  have hL1:(ll:Int)≤100000:=by omega
  clear h hg hs hsz hll hlen hk hgd hbb hnm0 hnl
  go_enter Tryz.func25,Tryz.ntmps25
  go_wp2_with fail
  simp only [←hW]
  clear hW
  go_wp2_with fail
  refine (HBI.out _).mono ?_
  rintro e w1 ⟨rfl,hu1⟩
  have HU2:=Lib.hid (HU1.out.trans_ext hu1)
  have HV2:=Lib.hid hu1
  have HB2:=Lib.hid (hu1.at HB1.out (by simp))
  clear hu1 x0 x1 x2 x3 x4 x5
  have x1:=cell_of HB2.out 1
  simp only [List.getElem?_toArray,List.getElem?_cons_zero,List.getElem?_cons_succ] at x1
  cases bb with
  | false =>
   have HR3:=Lib.hid (RowW.nil W w1 HV2.out)
   have HU3:=HU2
   have HB3:=HB2
   have HO1:Hid (([]:List (List UInt8)).length≤1):=Lib.hid (by simp)
   have HEE:Hid ((if false=true then plusF [] nm else [])=([]:List (List UInt8))):=Lib.hid rfl
   rw [HEE.out] at HE
   obtain⟨w3,hw3⟩:∃w3,w3=w1:=⟨_,rfl⟩
   rw [←hw3] at HR3 HU3 HB3
   clear x1
   go_wp2_with fail
   simp only [←hw3]
   clear hw3
   go_loopw [3,4] (fun s i wq=>∃(q m:Nat) (va:Option Addr) (vc:Nat),q≤ll∧i=.int .i64 q∧s=.slice va m vc∧Hid (RowW W (boundsR (l.take q) []) (.slice va m vc) wq∧m=(boundsR (l.take q) []).length)∧Hid (Upto [] w3 wq)) (fun _ i _=>ll-(intOf i).toNat)
   case atStart=>exact⟨0,_,_,_,by omega,rfl,rfl,Lib.hid ⟨by simpa [boundsR] using HR3.out,by simp [boundsR]⟩,Lib.hid (Upto.refl _ _)⟩
   case round =>
    obtain⟨q,m,vb,vd,hq,rfl,rfl,HR,HV⟩:=hrel
    have hq0:(0:Int)≤q:=by omega
    have HBB:=Lib.hid (HV.out.at HB3.out (by simp))
    have x5:=cell_of HBB.out 5
    simp only [List.getElem?_toArray,List.getElem?_cons_zero,List.getElem?_cons_succ] at x5
    rcases Nat.lt_or_ge q ll with hlt | hge
    ·obtain⟨x,hx⟩:∃x,l[q]?=some x:=⟨_,List.getElem?_eq_getElem (by have:=HLL.out;omega)⟩
     obtain⟨g,o,xo,xn1,xn2,xn3,xs,xm,xq,xl1,xl2,xl3,rfl,d0,d1,d2,d3,d4,d5,hnx⟩:=HG.out q x hx
     have hw:=HU3.out.trans_ext HV.out
     replace d0:=up_cell hw d0
     replace d1:=up_cell hw d1
     replace d2:=up_cell hw d2
     replace d3:=up_cell hw d3
     replace d4:=up_cell hw d4
     replace d5:=up_cell hw d5
     have HST:=Lib.hid (sizesF_take l q x hx)
     have HC:=Lib.hid (HIH.out x (List.mem_of_getElem? hx) (by have:=HSZ.out;have:=HST.out;omega) _ wr P (hnx.ext hw))
     have hltI:(q:Int)<ll:=by omega
     have HNX:Hid (boundsR (l.take (q+1)) []=(boundR x).foldl plusF (boundsR (l.take q) [])):=Lib.hid (by rw [take_app1 l q x hx];exact boundsR_app x _ _)
     have HFL:=Lib.hid (boundR_len x)
     have HOL:Hid ((boundsR (l.take q) []).length+(boundR x).length≤100001):=Lib.hid (by have h1:=boundsR_len (l.take q) [];have h2:=HST.out;have h3:=HFL.out;have h4:=HO1.out;have h5:=HSZ.out;omega)
     clear hnx hx hw
     go_wp2_with fail
     refine HC.out.mono ?_
     rintro e w5 ⟨v7,rfl,hr7⟩
     obtain⟨a7,c7,rfl⟩:=hr7.slp.len
     have HS7:=Lib.hid hr7.slp
     have HU5:=Lib.hid (HV.out.trans_ext hr7.up)
     have HR5:=Lib.hid (HR.out.1.ext hr7.up)
     have hmm:=HR.out.2
     generalize hlc:boundR x=lc at *
     generalize hfq:boundsR (l.take q) []=fq at *
     subst hmm
     clear hr7 hlc hfq HR
     generalize hln7:lc.length=n7 at *
     have HL7:=Lib.hid hln7
     have hn70:(0:Int)≤n7:=by omega
     have hn71:(n7:Int)≤1000000:=by have:=HOL.out;omega
     clear hln7 d0 d1 d2 d3 d4 d5 x5
     go_wp2_with fail
     go_loopw [3,6] (fun s i wz=>∃(z m:Nat) (va:Option Addr) (vc:Nat),z≤n7∧i=.int .i64 z∧s=.slice va m vc∧Hid (RowW W ((lc.take z).foldl plusF fq) (.slice va m vc) wz∧m=((lc.take z).foldl plusF fq).length)∧Hid (Upto [] w5 wz)) (fun _ i _=>n7-(intOf i).toNat)
     case atStart=>exact⟨0,_,vb,vd,by omega,rfl,rfl,Lib.hid ⟨by simpa using HR5.out,by simp⟩,Lib.hid (Upto.refl _ _)⟩
     case round =>
      obtain⟨z,m,vb2,vd2,hz,rfl,rfl,HR6,HZ⟩:=hrel
      have hz0:(0:Int)≤z:=by omega
      rcases Nat.lt_or_ge z n7 with hlt | hge
      ·obtain⟨y,hy⟩:∃y,lc[z]?=some y:=⟨_,List.getElem?_eq_getElem (by have:=HL7.out;omega)⟩
       obtain⟨g7,o7,rfl,hcell⟩:=slp_cell HS7.out HL7.out z y hy
       have hc7:=hcell wr HZ.out
       have hltI:(z:Int)<n7:=by omega
       have HNZ:Hid ((lc.take (z+1)).foldl plusF fq=plusF ((lc.take z).foldl plusF fq) y):=Lib.hid (by rw [take_app1 lc z y hy,List.foldl_append];rfl)
       have HCL:=Lib.hid (HPL.out _ y _ wr HR6.out.1 (by have h1:=fold_len (lc.take z) fq;have h2:=HOL.out;have h3:=HL7.out;have h4:=List.length_take_le z lc;omega))
       clear hcell hy
       go_wp2_with fail
       refine HCL.out.mono ?_
       rintro e wa ⟨va,rfl,hsa,hua⟩
       have HRA:=Lib.hid (HR6.out.1.of (_P:=New W) hsa hua)
       obtain⟨aa,ca,rfl⟩:=hsa.len
       have HUA:=Lib.hid (HZ.out.trans_ext hua)
       clear hua hsa
       go_wp2_with fail
       go_roundw
       case rel=>exact⟨z+1,_,aa,ca,by omega,by go_num,rfl,Lib.hid (by rw [HNZ.out];exact⟨HRA.out,rfl⟩),HUA⟩
       case measure=>simp [intOf];omega
      ·obtain rfl:z=n7:=by omega
       have hgeI:¬(z:Int)<z:=by omega
       have HT7:Hid (lc.take z=lc):=Lib.hid (by rw [←HL7.out,List.take_length])
       rw [HT7.out] at HR6
       have HUZ:=Lib.hid (HU5.out.trans_ext HZ.out)
       go_wp2_with fail
       go_roundw
       case rel=>exact⟨q+1,m,vb2,vd2,by omega,by go_num,rfl,Lib.hid (by rw [HNX.out];exact HR6.out),HUZ⟩
       case measure=>simp [intOf];omega
    ·obtain rfl:q=ll:=by omega
     have hgeI:¬(q:Int)<q:=by omega
     have HT:Hid (l.take q=l):=Lib.hid (by rw [←HLL.out,List.take_length])
     rw [HT.out] at HR
     go_wp2_with fail
     go_ret
     unfold FqPost
     rw [HE.out]
     exact⟨_,rfl,⟨HR.out.1.slp.mono (fun b hb _=>Nat.le_trans HU1.out.size hb),HU1.out.trans_ext HR.out.1.up⟩⟩
  | true =>
   obtain⟨gn,on,rfl,hcn⟩:=HN0.out rfl
   have hn0:=hcn w1 HU2.out
   have hnl0:=HNL.out rfl
   have hnl1:(0:Int)<nl:=by omega
   have HCL:=Lib.hid (HPL.out [] nm (.slice none 0 0) w1 (RowW.nil W w1 HV2.out) (by simp))
   have HEE:Hid ((if true=true then plusF [] nm else [])=plusF [] nm):=Lib.hid rfl
   rw [HEE.out] at HE
   have HO1:Hid ((plusF [] nm).length≤1):=Lib.hid (by unfold plusF;split<;>simp)
   generalize plusF [] nm=out1 at *
   clear hcn
   go_wp2_with fail
   refine HCL.out.mono ?_
   rintro e w3 ⟨v3,rfl,hs3,hu3⟩
   have HR3:=Lib.hid ((RowW.nil W w1 HV2.out).of (_P:=New W) hs3 hu3)
   have HU3:=Lib.hid (HU2.out.trans_ext hu3)
   have HB3:=Lib.hid (hu3.at HB2.out (by simp))
   obtain⟨a3,c3,rfl⟩:=hs3.len
   clear hs3 hu3 hn0 x1
   go_wp2_with fail
   go_loopw [3,4] (fun s i wq=>∃(q m:Nat) (va:Option Addr) (vc:Nat),q≤ll∧i=.int .i64 q∧s=.slice va m vc∧Hid (RowW W (boundsR (l.take q) out1) (.slice va m vc) wq∧m=(boundsR (l.take q) out1).length)∧Hid (Upto [] w3 wq)) (fun _ i _=>ll-(intOf i).toNat)
   case atStart=>exact⟨0,_,_,_,by omega,rfl,rfl,Lib.hid ⟨by simpa [boundsR] using HR3.out,by simp [boundsR]⟩,Lib.hid (Upto.refl _ _)⟩
   case round =>
    obtain⟨q,m,vb,vd,hq,rfl,rfl,HR,HV⟩:=hrel
    have hq0:(0:Int)≤q:=by omega
    have HBB:=Lib.hid (HV.out.at HB3.out (by simp))
    have x5:=cell_of HBB.out 5
    simp only [List.getElem?_toArray,List.getElem?_cons_zero,List.getElem?_cons_succ] at x5
    rcases Nat.lt_or_ge q ll with hlt | hge
    ·obtain⟨x,hx⟩:∃x,l[q]?=some x:=⟨_,List.getElem?_eq_getElem (by have:=HLL.out;omega)⟩
     obtain⟨g,o,xo,xn1,xn2,xn3,xs,xm,xq,xl1,xl2,xl3,rfl,d0,d1,d2,d3,d4,d5,hnx⟩:=HG.out q x hx
     have hw:=HU3.out.trans_ext HV.out
     replace d0:=up_cell hw d0
     replace d1:=up_cell hw d1
     replace d2:=up_cell hw d2
     replace d3:=up_cell hw d3
     replace d4:=up_cell hw d4
     replace d5:=up_cell hw d5
     have HST:=Lib.hid (sizesF_take l q x hx)
     have HC:=Lib.hid (HIH.out x (List.mem_of_getElem? hx) (by have:=HSZ.out;have:=HST.out;omega) _ wr P (hnx.ext hw))
     have hltI:(q:Int)<ll:=by omega
     have HNX:Hid (boundsR (l.take (q+1)) out1=(boundR x).foldl plusF (boundsR (l.take q) out1)):=Lib.hid (by rw [take_app1 l q x hx];exact boundsR_app x _ _)
     have HFL:=Lib.hid (boundR_len x)
     have HOL:Hid ((boundsR (l.take q) out1).length+(boundR x).length≤100001):=Lib.hid (by have h1:=boundsR_len (l.take q) out1;have h2:=HST.out;have h3:=HFL.out;have h4:=HO1.out;have h5:=HSZ.out;omega)
     clear hnx hx hw
     go_wp2_with fail
     refine HC.out.mono ?_
     rintro e w5 ⟨v7,rfl,hr7⟩
     obtain⟨a7,c7,rfl⟩:=hr7.slp.len
     have HS7:=Lib.hid hr7.slp
     have HU5:=Lib.hid (HV.out.trans_ext hr7.up)
     have HR5:=Lib.hid (HR.out.1.ext hr7.up)
     have hmm:=HR.out.2
     generalize hlc:boundR x=lc at *
     generalize hfq:boundsR (l.take q) out1=fq at *
     subst hmm
     clear hr7 hlc hfq HR
     generalize hln7:lc.length=n7 at *
     have HL7:=Lib.hid hln7
     have hn70:(0:Int)≤n7:=by omega
     have hn71:(n7:Int)≤1000000:=by have:=HOL.out;omega
     clear hln7 d0 d1 d2 d3 d4 d5 x5
     go_wp2_with fail
     go_loopw [3,6] (fun s i wz=>∃(z m:Nat) (va:Option Addr) (vc:Nat),z≤n7∧i=.int .i64 z∧s=.slice va m vc∧Hid (RowW W ((lc.take z).foldl plusF fq) (.slice va m vc) wz∧m=((lc.take z).foldl plusF fq).length)∧Hid (Upto [] w5 wz)) (fun _ i _=>n7-(intOf i).toNat)
     case atStart=>exact⟨0,_,vb,vd,by omega,rfl,rfl,Lib.hid ⟨by simpa using HR5.out,by simp⟩,Lib.hid (Upto.refl _ _)⟩
     case round =>
      obtain⟨z,m,vb2,vd2,hz,rfl,rfl,HR6,HZ⟩:=hrel
      have hz0:(0:Int)≤z:=by omega
      rcases Nat.lt_or_ge z n7 with hlt | hge
      ·obtain⟨y,hy⟩:∃y,lc[z]?=some y:=⟨_,List.getElem?_eq_getElem (by have:=HL7.out;omega)⟩
       obtain⟨g7,o7,rfl,hcell⟩:=slp_cell HS7.out HL7.out z y hy
       have hc7:=hcell wr HZ.out
       have hltI:(z:Int)<n7:=by omega
       have HNZ:Hid ((lc.take (z+1)).foldl plusF fq=plusF ((lc.take z).foldl plusF fq) y):=Lib.hid (by rw [take_app1 lc z y hy,List.foldl_append];rfl)
       have HCL:=Lib.hid (HPL.out _ y _ wr HR6.out.1 (by have h1:=fold_len (lc.take z) fq;have h2:=HOL.out;have h3:=HL7.out;have h4:=List.length_take_le z lc;omega))
       clear hcell hy
       go_wp2_with fail
       refine HCL.out.mono ?_
       rintro e wa ⟨va,rfl,hsa,hua⟩
       have HRA:=Lib.hid (HR6.out.1.of (_P:=New W) hsa hua)
       obtain⟨aa,ca,rfl⟩:=hsa.len
       have HUA:=Lib.hid (HZ.out.trans_ext hua)
       clear hua hsa
       go_wp2_with fail
       go_roundw
       case rel=>exact⟨z+1,_,aa,ca,by omega,by go_num,rfl,Lib.hid (by rw [HNZ.out];exact⟨HRA.out,rfl⟩),HUA⟩
       case measure=>simp [intOf];omega
      ·obtain rfl:z=n7:=by omega
       have hgeI:¬(z:Int)<z:=by omega
       have HT7:Hid (lc.take z=lc):=Lib.hid (by rw [←HL7.out,List.take_length])
       rw [HT7.out] at HR6
       have HUZ:=Lib.hid (HU5.out.trans_ext HZ.out)
       go_wp2_with fail
       go_roundw
       case rel=>exact⟨q+1,m,vb2,vd2,by omega,by go_num,rfl,Lib.hid (by rw [HNX.out];exact HR6.out),HUZ⟩
       case measure=>simp [intOf];omega
    ·obtain rfl:q=ll:=by omega
     have hgeI:¬(q:Int)<q:=by omega
     have HT:Hid (l.take q=l):=Lib.hid (by rw [←HLL.out,List.take_length])
     rw [HT.out] at HR
     go_wp2_with fail
     go_ret
     unfold FqPost
     rw [HE.out]
     exact⟨_,rfl,⟨HR.out.1.slp.mono (fun b hb _=>Nat.le_trans HU1.out.size hb),HU1.out.trans_ext HR.out.1.up⟩⟩
end Go.Proofs.YtbnebkkpmcjmbaaGreatDoor
namespace Go.Proofs.YtbnebkkpmcjmbaaGreatDoor
open Go.RowKit Go.PL Go.Maps
open Go.Lib (decDigits decDigits_one)
theorem dgF_isG:∀(k n:Nat) (s:List UInt8),0<n→n<10 ^ k→dgF (k+1) n s=decDigits n++s
 | 0,n,s,h0,h=>by simp at h;omega
 | k+1,n,s,h0,h=>by
  rw [dgF,if_pos (Or.inr h0)]
  rcases Nat.lt_or_ge n 10 with h1 | h1
  ·rw [decDigits_one h1,Nat.div_eq_of_lt h1,Nat.mod_eq_of_lt h1,dgF,if_neg (by simp)]
   rfl
  ·rw [dgF_isG k (n / 10) _ (by omega) (by
    rw [Nat.div_lt_iff_lt_mul (by omega)]
    rw [Nat.pow_succ] at h
    exact h),decDigits_more (by omega:¬n<10)]
   simp
theorem dg_measG {b:UInt8} {s:List UInt8} (h:s.length≤5):(match Value.string ⟨(b::s).toArray⟩ with | .string b=>20-b.size | _=>0)<(match Value.string ⟨s.toArray⟩ with | .string b=>20-b.size | _=>0):=by
 have h1:(ByteArray.mk (b::s).toArray).size=s.length+1:=by show (b::s).toArray.size=_;simp
 have h2:(ByteArray.mk s.toArray).size=s.length:=by show s.toArray.size=_;simp
 simp only [h1,h2]
 omega
set_option maxRecDepth 100000 in
set_option maxHeartbeats 3200000 in
theorem digRG_calls (N:Nat) (h0:0<N) (hN:N<10000) (w:World):Calls Tryz.prog 81 #[.int .i64 (N:Int)] w fun e w'=>e=.returned (.string ⟨(decDigits N).toArray⟩)∧Upto [] w w':=by
 have HR:=Lib.hid (show dgF 5 N []=decDigits N by rw [dgF_isG 4 N [] h0 (by omega)];simp)
 generalize decDigits N=R at *
 have HN:=Lib.hid (And.intro h0 hN)
 have HM:Hid (∃M:Nat,M=100):=Lib.hid ⟨_,rfl⟩
 go_enter Tryz.func81,Tryz.ntmps81
 go_wp2_with fail
 go_loopw [0,3] (fun vn vs wr=>∃(f n:Nat) (s:List UInt8),vn=.int .i64 (n:Int)∧vs=.string ⟨s.toArray⟩∧Hid (dgF f n s=R∧(f+s.length=5∧n<10 ^ (f-1)∧(s=[]→0<n))∧Upto [] w wr)) (fun vn vs _=>match vs with | .string b=>20-b.size | _=>0)
 case atStart=>exact⟨5,N,[],rfl,rfl,Lib.hid ⟨HR.out,⟨rfl,HN.out.2,fun _=>HN.out.1⟩,Upto.refl _ _⟩⟩
 case round =>
  obtain⟨f,n,s,rfl,rfl,HI⟩:=hrel
  by_cases hc:s=[]∨0<n
  ·have hn0:(0:Int)≤n:=by omega
   have HNP:Hid (0<n):=Lib.hid (by
    rcases hc with hc | hc
    ·exact HI.out.2.1.2.2 hc
    ·exact hc)
   have HD:Hid (∃f',dgF f' (n / 10) (UInt8.ofNat (48+n % 10)::s)=R∧(f'+(UInt8.ofNat (48+n % 10)::s).length=5∧n / 10<10 ^ (f'-1)∧(UInt8.ofNat (48+n % 10)::s=[]→0<n / 10))):=Lib.hid (by
    obtain⟨h1,⟨h2,h3,h4⟩,-⟩:=HI.out
    match f,h1,h2,h3 with
    | 0,h1,h2,h3=>simp at h3;have:=HNP.out;omega
    | 1,h1,h2,h3=>simp at h3;have:=HNP.out;omega
    | f+2,h1,h2,h3 =>
     rw [dgF,if_pos hc] at h1
     refine⟨f+1,h1,by simp only [List.length_cons];omega,?_,by simp⟩
     have h5:n<10 ^ (f+1):=h3
     rw [Nat.pow_succ] at h5
     show n / 10<10 ^ f
     rw [Nat.div_lt_iff_lt_mul (by omega)]
     exact h5)
   have HU:=Lib.hid HI.out.2.2
   have hsl:s.length≤5:=by have:=HI.out.2.1.1;omega
   have hn9:(n:Int)≤10000:=by
    have h1:=HI.out.2.1.2.1
    have h2:=HI.out.2.1.1
    have:10 ^ (f-1)≤10 ^ 4:=Nat.pow_le_pow_right (by omega) (by omega)
    omega
   have hcv:=conv_digit wr n
   have HUA:=Lib.hid (HU.out.alloc (.cells #[.int .u8 (48+(n:Int) % 10)] 5))
   clear HI
   by_cases hs:s=[]
   ·have HS:=Lib.hid hs
    subst hs
    clear hc
    go_wp2_with fail
    obtain⟨f',h1,h2⟩:=HD.out
    rw [show (⟨#[]⟩:ByteArray)=⟨([]:List UInt8).toArray⟩ from rfl,dg_str]
    exact⟨⟨f',n / 10,_,by simp,rfl,Lib.hid ⟨h1,h2,HUA.out⟩⟩,dg_measG (by simp)⟩
   ·have hb:(s==[])=false:=by rw [beq_eq_false_iff_ne];exact hs
    have hnp:(0:Int)<n:=by
     rcases hc with h | h
     ·exact absurd h hs
     ·omega
    clear hc hs
    go_wp2_with fail
    obtain⟨f',h1,h2⟩:=HD.out
    rw [dg_str]
    exact⟨⟨f',n / 10,_,by simp,rfl,Lib.hid ⟨h1,h2,HUA.out⟩⟩,dg_measG hsl⟩
  ·have hs:s≠[]:=fun h=>hc (Or.inl h)
   have hn:n=0:=by
    rcases Nat.eq_zero_or_pos n with h | h
    ·exact h
    ·exact absurd (Or.inr h) hc
   subst hn
   have hb:(s==[])=false:=by rw [beq_eq_false_iff_ne];exact hs
   have HE:Hid (s=R):=Lib.hid (by
    have:=HI.out.1
    cases f with
    | zero=>exact this
    | succ f=>rw [dgF,if_neg hc] at this;exact this)
   clear hc hs
   go_wp2_with fail
   go_ret
   exact⟨by rw [HE.out];rfl,HI.out.2.2⟩
set_option maxRecDepth 100000 in
set_option maxHeartbeats 3200000 in
theorem freshRG_calls (s:List UInt8) (tk:List (List UInt8)) (v:Value) (w:World) (P:Nat→Prop) (h:SlP w P v tk.length (tk.map sV)) (hl:tk.length≤8000) (hs:s.length≤281474976710656):Calls Tryz.prog 50 #[.string ⟨s.toArray⟩,v] w fun e w'=>e=.returned (.string ⟨(freshG s tk).toArray⟩)∧Upto [] w w':=by
 have HID:=Lib.hid (fun (x:List UInt8) (u:World) (hx:x.length≤281474976710656)=>isName_calls x u hx)
 have HCO:=Lib.hid (fun (x:List UInt8) (u:World) (hu:Upto [] w u)=>hasR_calls tk x v u P (h.ext hu) (by omega))
 have HF0:=freeFromG_spec s tk 9998 2
 have HK0:=freeG_lt s tk hl
 have HI0:=freeG_is s tk hl
 have HFC:=Lib.hid (fun (hn:nameF s=true) (hc:tk.contains s=true)=>freshG_cand hn hc)
 generalize freeFromG s tk 9998 2=K at *
 have HF:=Lib.hid (And.intro HF0.1 HF0.2.2.1)
 have HK:=Lib.hid HK0
 have HI:=Lib.hid HI0
 have HFN:=Lib.hid (fun hn:nameF s=false=>freshG_no (tk:=tk) hn)
 have HFS:=Lib.hid (fun (hn:nameF s=true) (hc:tk.contains s=false)=>freshG_self hn hc)
 generalize freshG s tk=R at *
 clear HF0 HK0 HI0
 obtain⟨a,c,rfl⟩:=h.len
 clear h
 cases hn:nameF s with
 | false =>
  have HE:Hid (R=[]):=Lib.hid (HFN.out hn)
  go_enter Tryz.func50,Tryz.ntmps50
  go_wp2_with fail
  refine (HID.out s _ hs).mono ?_
  rintro e w1 ⟨rfl,hu1⟩
  rw [hn]
  have HU:=Lib.hid hu1
  clear hu1
  go_wp2_with fail
  go_ret
  exact⟨by rw [HE.out];rfl,HU.out⟩
 | true =>
  obtain⟨b,t,-,-,-,hl16⟩:=name_parts hn
  clear b t
  cases hc:tk.contains s with
  | false =>
   have HE:Hid (R=s):=Lib.hid (HFS.out hn hc)
   go_enter Tryz.func50,Tryz.ntmps50
   go_wp2_with fail
   refine (HID.out s _ hs).mono ?_
   rintro e w1 ⟨rfl,hu1⟩
   rw [hn]
   have HU:=Lib.hid hu1
   clear hu1
   go_wp2_with fail
   refine (HCO.out s _ HU.out).mono ?_
   rintro e w2 ⟨rfl,rfl⟩
   rw [hc]
   go_wp2_with fail
   go_ret
   exact⟨by rw [HE.out];rfl,HU.out⟩
  | true =>
   have HE:Hid (R=candG s K):=Lib.hid (HFC.out hn hc)
   have HNN:=Lib.hid hn
   obtain⟨M,hM⟩:∃M:Nat,M=20000:=⟨_,rfl⟩
   have HM:=Lib.hid hM
   clear hM
   go_enter Tryz.func50,Tryz.ntmps50
   go_wp2_with fail
   refine (HID.out s _ hs).mono ?_
   rintro e w1 ⟨rfl,hu1⟩
   rw [hn]
   have HU:=Lib.hid hu1
   clear hu1
   go_wp2_with fail
   refine (HCO.out s _ HU.out).mono ?_
   rintro e w2 ⟨rfl,rfl⟩
   rw [hc]
   clear hc hn
   have HS:=Lib.hid hs
   clear hs
   go_wp2_with fail
   go_loopw [5] (fun vi wr=>∃j:Nat,vi=.int .i64 j∧Hid (2≤j∧j≤K∧Upto [] w wr)) (fun vi _=>M-(intOf vi).toNat)
   case atStart=>exact⟨2,rfl,Lib.hid ⟨Nat.le_refl _,HF.out.1,HU.out⟩⟩
   case round =>
    obtain⟨j,rfl,HJ⟩:=hrel
    have hj100:j<10000:=by have:=HK.out;have:=HJ.out.2.1;omega
    have hj0:(0:Int)≤j:=by omega
    have hd:=decDigits_len j hj100
    have HIT:=Lib.hid (digRG_calls j (by have:=HJ.out.1;omega) hj100)
    have HCG:=Lib.hid (candG_get s j _ rfl hl16)
    have HCN:=Lib.hid (candG_name s HNN.out j hj100)
    have HU1:=Lib.hid HJ.out.2.2
    go_wp2_with fail
    refine (HIT.out _).mono ?_
    rintro e w3 ⟨rfl,hu3⟩
    have HU3:=Lib.hid (HU1.out.trans_ext hu3)
    clear hu3
    generalize hD:decDigits j=D at *
    have hDl0:(D.length:Int)≤4:=by omega
    have hDl1:(1:Int)≤D.length:=by omega
    have hsl:(s.length:Int)≤16:=by omega
    clear hD
    go_wp2_with fail
    have hcs:(({ data:=s.toArray }:ByteArray).extract 0 (min (s.length:Int) (16-D.length)).toNat++{ data:=D.toArray })=⟨(candG s j).toArray⟩:=by
     have he:=ext_to (s:=s) 0 (min s.length (16-D.length))
     rw [Nat.zero_add,List.drop_zero] at he
     rw [show (min (↑s.length) (16-(D.length:Int))).toNat=min s.length (16-D.length) by omega,he,←byte_app,←HCG.out]
    simp only [hcs]
    clear hcs
    have hcl:(candG s j).length≤281474976710656:=by
     obtain⟨b,t,-,-,-,h3⟩:=name_parts HCN.out
     omega
    have HIO:=Lib.hid (HID.out (candG s j) w3 hcl)
    clear hcl
    refine HIO.out.mono ?_
    rintro e w4 ⟨rfl,hu4⟩
    rw [HCN.out]
    have HU4:=Lib.hid (HU3.out.trans_ext hu4)
    clear hu4 HIO
    go_wp2_with fail
    refine (HCO.out (candG s j) _ HU4.out).mono ?_
    rintro e w5 ⟨rfl,rfl⟩
    cases hc:tk.contains (candG s j) with
    | true =>
     have HJK:Hid (j+1≤K):=Lib.hid (by
      rcases Nat.eq_or_lt_of_le HJ.out.2.1 with h5 | h5
      ·rw [h5,HI.out] at hc
       cases hc
      ·omega)
     have HJ2:=HJ.out.1
     clear hc
     go_wp2_with fail
     rw [show (j:Int)+1=((j+1:Nat):Int) from rfl]
     exact⟨⟨j+1,rfl,Lib.hid ⟨by omega,HJK.out,HU4.out⟩⟩,meas_up (by have:=HM.out;omega) rfl⟩
    | false =>
     have HJK:Hid (R=candG s j):=Lib.hid (by
      rcases Nat.eq_or_lt_of_le HJ.out.2.1 with h5 | h5
      ·rw [HE.out,h5]
      ·have:=HF.out.2 j HJ.out.1 h5
       rw [hc] at this
       cases this)
     clear hc
     go_wp2_with fail
     go_ret
     exact⟨by rw [HJK.out];rfl,HU4.out⟩
end Go.Proofs.YtbnebkkpmcjmbaaGreatDoor
