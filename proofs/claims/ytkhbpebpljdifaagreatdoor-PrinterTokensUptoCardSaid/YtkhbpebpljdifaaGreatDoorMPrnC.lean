/- Merged texts. -/
import Derived.Test.YtkhbpebpljdifaaGreatDoorMPri
set_option maxRecDepth 100000
set_option maxHeartbeats 25600000
namespace Go.Proofs.YtkhbpebpljdifaaGreatDoor
open Go.PL
theorem lvs_get (last:Bool):∀(l:List Nd) (i:Nat),(∀x∈l,lvF last x≤2*kNw x)→(lvsF last l).getD i 0≤2*kLz l
 | [],i,_=>by simp [lvsF]
 | x::xs,0,h=>by
  have:=h x (by simp)
  simp only [lvsF,List.getD_cons_zero,kLz]
  omega
 | x::xs,i+1,h=>by
  have:=lvs_get last xs i (fun y hy=>h y (by simp [hy]))
  simp only [lvsF,List.getD_cons_succ,kLz]
  omega
theorem parL_le (b:Bool) (t u:Nat):parL b t u≤max (1+t) u:=by
 cases b
 ·simp only [parL,if_false,Bool.false_eq_true];omega
 ·simp only [parL,if_true];omega
theorem lv_le:∀(k:Nat) (nd:Nd),kCz nd≤k→∀last,lvF last nd≤2*kNw nd
 | 0,nd,hn,_=>by have:=kRw nd;omega
 | k+1,.mk op names so n m ls,hn,last=>by
  unfold kCz at hn
  have hall:∀(last:Bool),∀x∈ls,lvF last x≤2*kNw x:=fun last x hx=>lv_le k x (by have:=sizes_mem hx;omega) last
  have hg:=fun last i=>lvs_get last ls i (hall last)
  unfold lvF kNw
  have h00:=hg true 0
  have h01:=hg true 1
  have h10:=hg false 0
  have h11:=hg last 0
  have h12:=hg last 1
  have p1:=parL_le (parB 11 0 (opNd ls 0) last) ((lvsF true ls).getD 0 0) ((lvsF last ls).getD 0 0)
  have p2:=parL_le (parB op 0 (opNd ls 0) false) ((lvsF true ls).getD 0 0) ((lvsF false ls).getD 0 0)
  have p3:=parL_le (parB op 1 (opNd ls 1) last) ((lvsF true ls).getD 1 0) ((lvsF last ls).getD 1 0)
  by_cases h1:op<11
  ·rw [if_pos h1];omega
  rw [if_neg h1]
  by_cases h2:op=11
  ·rw [if_pos h2];omega
  rw [if_neg h2]
  by_cases h3:op<16
  ·rw [if_pos h3];omega
  ·rw [if_neg h3];omega
end Go.Proofs.YtkhbpebpljdifaaGreatDoor
namespace Go.Proofs.YtkhbpebpljdifaaGreatDoor
open Go.RowKit Go.PL Go.Maps
theorem cells3 {w:World} {p:Nat} {a b c:Value} {r:List Value} {t:TypeId} {z:Nat×Nat} (h:w.heap[p]?=some (.cells (a::b::c::r).toArray t z)):w.cell? ⟨p,0,none⟩=some a∧w.cell? ⟨p,1,none⟩=some b∧w.cell? ⟨p,2,none⟩=some c :=
 ⟨by simpa using kAz h 0,by simpa using kAz h 1,by simpa using kAz h 2⟩
def ofTok (t:PL.Tok):ITok:=⟨t.kind,t.text,t.val,t.line,t.col⟩
theorem Toks.I {w:World} {v:Value} {ts:List PL.Tok} (h:Toks w v ts):IToks w v (ts.map ofTok):=by
 unfold IToks
 rw [List.length_map,List.flatMap_map]
 exact h
def joinF:List ITok→Option (List (List UInt8))
 | []=>some []
 | t::ts=>if ts=[]∧eofI t then some [] else if goodI t then (joinF ts).map fun l=>t.text::l else none
theorem joinF_eof {t:ITok} (h:eofI t):joinF [t]=some []:=by simp [joinF,h]
theorem joinF_good {t:ITok} {ts:List ITok} (h1:¬(ts=[]∧eofI t)) (h:goodI t):joinF (t::ts)=(joinF ts).map fun l=>t.text::l:=by rw [joinF,if_neg h1,if_pos h]
theorem joinF_bad {t:ITok} {ts:List ITok} (h1:¬(ts=[]∧eofI t)) (h:¬goodI t):joinF (t::ts)=none:=by rw [joinF,if_neg h1,if_neg h]
def JoinR (ts:List ITok) (e:Ending):Prop:=(∃l,joinF ts=some l∧e=.returned (.tuple #[.string ⟨(Lib.join l [32]).toArray⟩,.int .i64 0]))∨(joinF ts=none∧e=.returned (.tuple #[.string ⟨#[]⟩,.int .i64 3]))
theorem infoJ9:(Tryz.prog.info? 9).map (fun i=>(i.zero,i.size,i.bytes))=some (some (.string ⟨#[]⟩),1,16):=by kernel_rfl
theorem joinTail_len (l:List (List UInt8)) (m:Nat) (h:∀x∈l,x.length≤m):(Lib.joinTail [32] l).length≤l.length*(m+1):=by
 induction l with
 | nil=>simp [Lib.joinTail]
 | cons a l ih =>
  have h1:=h a (by simp)
  have h2:=ih (fun x hx=>h x (by simp [hx]))
  have e:Lib.joinTail [32] (a::l)=32::(a++Lib.joinTail [32] l):=by simp [Lib.joinTail]
  rw [e,List.length_cons,List.length_append,List.length_cons,Nat.add_mul]
  omega
theorem join_len (l:List (List UInt8)) (m:Nat) (h:∀x∈l,x.length≤m):(Lib.join l [32]).length≤l.length*(m+1):=by
 cases l with
 | nil=>simp [Lib.join_nil]
 | cons a l =>
  have h1:=h a (by simp)
  have h2:=joinTail_len l m (fun x hx=>h x (by simp [hx]))
  rw [Lib.join_cons,List.length_append,List.length_cons,Nat.add_mul]
  omega
theorem joined_calls {w wr:World} {ls:List (List UInt8)} {l:Value} (h:JnI w ls l wr) (hm:∀x∈ls,x.length≤100000) (hn:ls.length≤100000):Calls Tryz.prog 82 #[l,.string ⟨#[32]⟩] wr fun e w'=>e=.returned (.string ⟨(Lib.join ls [32]).toArray⟩)∧Upto [] wr w':=by
 have hj:=join_len ls 100000 hm
 have hj2:(Lib.join ls [32]).length≤140737488355328:=by
  have:ls.length*(100000+1)≤100000*100001:=Nat.mul_le_mul_right _ hn
  omega
 obtain⟨xs,hxs⟩:∃xs:List ByteArray,xs=ls.map fun l=>(⟨l.toArray⟩:ByteArray):=⟨_,rfl⟩
 have hxl:xs.length=ls.length:=by rw [hxs,List.length_map]
 have hxj:xs.map (fun x=>x.data.toList)=ls:=by rw [hxs,List.map_map];simp [Function.comp_def]
 have hxc:∀(j:Nat) x,xs[j]?=some x→(ls.map sb)[j]?=some (.string x):=by
  intro j x hj
  rw [hxs,List.getElem?_map] at hj
  obtain⟨y,hy,rfl⟩:=Option.map_eq_some_iff.1 hj
  rw [List.getElem?_map,hy]
  rfl
 rcases h.row.2 with⟨h1,h2⟩ | ⟨g,cap,cur,he,_,hh,hcap,_,hcs,ht⟩
 ·have h0:ls=[]:=by simpa using h2
  subst h0
  rw [h1]
  exact (Tryz.strings_Join_none none 0 ⟨#[32]⟩ wr).mono fun e w' ⟨h3,h4⟩=>⟨h3,by rw [h4];exact Upto.refl _ _⟩
 ·rw [he,←hxl]
  by_cases h0:xs.length=0
  ·have h00:ls=[]:=List.eq_nil_of_length_eq_zero (by omega)
   rw [h0,h00]
   exact (Tryz.strings_Join_none _ _ ⟨#[32]⟩ wr).mono fun e w' ⟨h3,h4⟩=>⟨h3,by rw [h4];exact Upto.refl _ _⟩
  ·have key:=Tryz.strings_Join g 0 cap xs ⟨#[32]⟩ wr (fun j x hj=>by
    rw [Nat.zero_add,kAz hh]
    have h5:=hxc j x hj
    rw [←ht,List.getElem?_take] at h5
    split at h5
    ·simpa using h5
    ·cases h5) (kAk hh) (by omega) (by omega) (by rw [hxj];exact hj2)
   rw [hxj] at key
   exact key.mono fun e w' ⟨h3,h4⟩=>⟨h3,ext_of h4⟩
theorem drop_split {α:Type} {l:List α} {i:Nat} {t:α} (h:l[i]?=some t):l.drop i=t::l.drop (i+1)∧l.take (i+1)=l.take i++[t]:=by
 obtain⟨h1,h2⟩:=List.getElem?_eq_some_iff.1 h
 exact⟨by rw [List.drop_eq_getElem_cons h1,h2],by rw [List.take_succ_eq_append_getElem h1,h2]⟩
theorem join_calls (ts:List ITok) (v:Value) (w:World) (hT:IToks w v ts) (he:Env w) (hn:ts.length≤100000) (hm:∀t∈ts,t.text.length≤100000):Calls Tryz.prog 49 #[v] w fun e w'=>JoinR ts e∧Upto [] w w':=by
 obtain⟨i0,hi0,hz0,hz1,hz2⟩:=info_parts infoJ9
 have HI:=Lib.hid hi0
 have HZ0:=Lib.hid hz0
 have HZ1:=Lib.hid hz1
 have HZ2:=Lib.hid hz2
 clear hi0 hz0 hz1 hz2
 obtain⟨pa,pc,rfl⟩:=hT.len
 have HAT:=Lib.hid hT.at
 have h0:=Lib.hid he
 have HMT:=Lib.hid hm
 have HO:=Lib.hid lexone_calls
 clear hT he hm
 have hM:JnI w [] (.slice none 0 0) w:=⟨⟨rfl,Or.inl ⟨rfl,rfl⟩⟩,fun g hg=>(by cases hg),Upto.refl _ _⟩
 generalize hnn:ts.length=n at *
 have hn1:(n:Int)≤100000:=by omega
 go_enter Tryz.func49,Tryz.ntmps49
 go_wp2_with fail
 go_loopw [4,11] (fun l i wr=>∃k:Nat,k≤n∧i=.int .i64 k∧JnI w ((ts.take k).map ITok.text) l wr∧Hid (joinF ts=(joinF (ts.drop k)).map fun l=>(ts.take k).map ITok.text++l)) (fun _ i _=>n-(intOf i).toNat)
 case atStart=>exact⟨0,by omega,rfl,hM,Lib.hid (by cases h:joinF ts<;>simp [h])⟩
 case round =>
  obtain⟨k,hk,rfl,hM',HJ⟩:=hrel
  clear hM
  have hlt0:((ts.take k).map ITok.text).length=k:=by rw [List.length_map,List.length_take];omega
  obtain⟨va,vc,hve,-⟩:=kJj hM'.row
  rw [hlt0] at hve
  subst hve
  have hk0:(0:Int)≤k:=by omega
  have HIN:=Lib.hid (show ∀x∈(ts.take k).map ITok.text,x.length≤100000 from fun x hx=>by
   obtain⟨t,ht,rfl⟩:=List.mem_map.1 hx
   exact HMT.out t (List.mem_of_mem_take ht))
  rcases Nat.lt_or_ge k n with hlt | hge
  ·obtain⟨t,ht⟩:∃t,ts[k]?=some t:=⟨ts[k],List.getElem?_eq_getElem (by omega)⟩
   obtain⟨hd1,hd2⟩:=drop_split ht
   rcases HAT.out with⟨h1,_⟩ | ⟨g,o,c,hs,hat⟩
   ·rw [h1] at hnn;simp at hnn;omega
   simp only [Value.slice.injEq] at hs
   obtain⟨rfl,-,rfl⟩:=hs
   obtain⟨c0,c1,c2,c3,c4⟩:=hat.ext hM'.up _ _ ht
   have htl:=HMT.out t (List.mem_of_getElem? ht)
   have HD1:=Lib.hid hd1
   have HD2:=Lib.hid hd2
   have hlast:ts.drop (k+1)=[]↔k+1=n:=by
    rw [List.drop_eq_nil_iff,hnn]
    omega
   have HLAST:=Lib.hid hlast
   have hlt':(k:Int)<n:=by omega
   have HM:=Lib.hid hM'
   have HL0:=Lib.hid hlt0
   clear ht hd1 hd2 hlast hat hM'
   by_cases heof:eofI t∧k+1=n
   ·obtain⟨⟨e1,e2,e3⟩,e4⟩:=heof
    have HEND:Hid (joinF ts=some ((ts.map ITok.text).take k)):=Lib.hid (by
     have hz:ts.drop (k+1)=[]:=HLAST.out.2 e4
     rw [HJ.out,HD1.out,hz,joinF_eof ⟨e1,e2,e3⟩]
     simp)
    have t1:(t.kind==0)=true:=by simp [e1]
    have t2:(t.text==([]:List UInt8))=true:=by simp [e2]
    have t3:(t.val==0)=true:=by simp [e3]
    have t4:((k:Int)==n-1)=true:=by rw [beq_iff_eq];omega
    have hjc:=joined_calls (HM.out.ext ((Upto.refl [] wr).alloc (.cells #[.int .i64 t.kind,.string ⟨t.text.toArray⟩,.int .i64 t.val,.int .i64 t.line,.int .i64 t.col] 83))) HIN.out (by rw [HL0.out];omega)
    have HJC:=Lib.hid hjc
    have hua:=HM.out.up.alloc (.cells #[.int .i64 t.kind,.string ⟨t.text.toArray⟩,.int .i64 t.val,.int .i64 t.line,.int .i64 t.col] 83)
    clear hjc e1 e2 e3 e4
    go_wp2_with fail
    refine HJC.out.mono ?_
    rintro e w2 ⟨rfl,hu2⟩
    go_wp2_with fail
    go_ret2
    exact⟨Or.inl ⟨_,HEND.out,by first | rfl | rw [List.map_take] | simp⟩,hua.trans_ext hu2⟩
   ·have hno:¬(ts.drop (k+1)=[]∧eofI t):=fun h=>heof ⟨h.2,HLAST.out.1 h.1⟩
    have HNO:=Lib.hid hno
    have hcase:(t.kind≠0)∨(t.kind=0∧t.text≠[])∨(t.kind=0∧t.text=[]∧t.val≠0)∨(t.kind=0∧t.text=[]∧t.val=0∧k+1≠n):=by
     by_cases h1:t.kind=0
     ·by_cases h2:t.text=[]
      ·by_cases h3:t.val=0
       ·exact Or.inr (Or.inr (Or.inr ⟨h1,h2,h3,fun h4=>heof ⟨⟨h1,h2,h3⟩,h4⟩⟩))
       ·exact Or.inr (Or.inr (Or.inl ⟨h1,h2,h3⟩))
      ·exact Or.inr (Or.inl ⟨h1,h2⟩)
     ·exact Or.inl h1
    have HONE:=Lib.hid (HO.out t.text (wr.alloc (.cells #[.int .i64 t.kind,.string ⟨t.text.toArray⟩,.int .i64 t.val,.int .i64 t.line,.int .i64 t.col] 83)) (h0.out.ext (HM.out.up.alloc (.cells #[.int .i64 t.kind,.string ⟨t.text.toArray⟩,.int .i64 t.val,.int .i64 t.line,.int .i64 t.col] 83))) (by omega))
    have hcx:=kAq wr (.cells #[.int .i64 t.kind,.string ⟨t.text.toArray⟩,.int .i64 t.val,.int .i64 t.line,.int .i64 t.col] 83)
    clear heof hno
    have hbool:((t.kind==0)=false)∨((t.kind==0)=true∧(t.text==([]:List UInt8))=false)∨((t.kind==0)=true∧(t.text==([]:List UInt8))=true∧(t.val==0)=false)∨((t.kind==0)=true∧(t.text==([]:List UInt8))=true∧(t.val==0)=true∧((k:Int)==n-1)=false):=by
     rcases hcase with h | ⟨h1,h2⟩ | ⟨h1,h2,h3⟩ | ⟨h1,h2,h3,h4⟩
     ·exact Or.inl (by simpa using h)
     ·exact Or.inr (Or.inl ⟨by simp [h1],by simpa using h2⟩)
     ·exact Or.inr (Or.inr (Or.inl ⟨by simp [h1],by simp [h2],by simpa using h3⟩))
     ·exact Or.inr (Or.inr (Or.inr ⟨by simp [h1],by simp [h2],by simp [h3],by rw [beq_eq_false_iff_ne];omega⟩))
    clear hcase
    rcases hbool with t1 | ⟨t1,t2⟩ | ⟨t1,t2,t3⟩ | ⟨t1,t2,t3,t4⟩
    all_goals
     go_wp2_with fail
     refine HONE.out.mono ?_
     rintro e w2 ⟨hr,hu2⟩
     clear HONE c0 c1 c2 c3 c4
     have hx2:=hu2.at hcx (by simp)
     have hup2:=(HM.out.up.alloc (.cells #[.int .i64 t.kind,.string ⟨t.text.toArray⟩,.int .i64 t.val,.int .i64 t.line,.int .i64 t.col] 83)).trans_ext hu2
     have hM2:=(HM.out.ext ((Upto.refl [] wr).alloc (.cells #[.int .i64 t.kind,.string ⟨t.text.toArray⟩,.int .i64 t.val,.int .i64 t.line,.int .i64 t.col] 83))).ext hu2
     have hbw:=kAk hx2
     generalize hB:wr.heap.size=B at *
     try clear t1
     try clear t2
     try clear t3
     try clear t4
     rcases hr with⟨k2,v2,l2,cc2,hone,rfl⟩ | ⟨hone,rfl⟩
     ·have hx3:=(hu2.alloc (.cells #[.int .i64 k2,.string ⟨t.text.toArray⟩,.int .i64 v2,.int .i64 l2,.int .i64 cc2] 83)).at hcx (by simp)
      obtain⟨n0,n1,n2,n3,n4⟩:=tok_cells w2 (.int .i64 k2) (.string ⟨t.text.toArray⟩) (.int .i64 v2) (.int .i64 l2) (.int .i64 cc2) 36
      obtain⟨q0,q1,q2⟩:=cells3 hx3
      have hup3:=hup2.alloc (.cells #[.int .i64 k2,.string ⟨t.text.toArray⟩,.int .i64 v2,.int .i64 l2,.int .i64 cc2] 83)
      have hM3:=hM2.ext ((Upto.refl [] w2).alloc (.cells #[.int .i64 k2,.string ⟨t.text.toArray⟩,.int .i64 v2,.int .i64 l2,.int .i64 cc2] 83))
      clear hx2 hx3 hM2 hup2 hu2 hcx
      by_cases hg:t.kind=k2∧t.val=v2
      ·have hgood:goodI t:=⟨k2,v2,hone,hg.1,hg.2⟩
       have HGG:Hid (joinF ts=(joinF (ts.drop (k+1))).map fun l=>(ts.take (k+1)).map ITok.text++l):=Lib.hid (by
        rw [HJ.out,HD1.out,joinF_good HNO.out hgood,HD2.out]
        cases joinF (ts.drop (k+1))<;>simp)
       obtain⟨hg1,hg2⟩:=hg
       have HM4:=Lib.hid hM3
       have hrow:=(hM3.ext ((Upto.refl [] _).alloc (.cells #[.string ⟨t.text.toArray⟩] 9))).row
       have hsrc:=kQk (l:=[sb t.text]) (kFz w2 (.cells #[.int .i64 k2,.string ⟨t.text.toArray⟩,.int .i64 v2,.int .i64 l2,.int .i64 cc2] 83) (.cells #[.string ⟨t.text.toArray⟩] 9))
       rw [HL0.out] at hrow
       clear hgood hone hM3 HNO HD1
       generalize t.kind=tk at *
       generalize t.val=tv at *
       subst hg1 hg2
       go_wp2_with (at_builtin;refine kHk _ rfl (.tmp 58) (.tmp 61) 22 rfl 9 i0 (.string ⟨#[]⟩) 1 16 Tryz.underlying22 HI.out HZ0.out HZ1.out HZ2.out rfl (by decide) (.slice va k vc) k _ rfl hrow ⟨w2.heap.size+1,0,none⟩ 1 1 [sb t.text] rfl rfl hsrc (by simp [Value.oneCell',sb]) (by unfold maxLen;omega) (by omega) ?_;intro vb vd w4 ho4 hu4 hw4;have HM5:=Lib.hid (HM4.out.app' HL0.out ho4 hu4 hw4);clear hrow hsrc ho4 hu4 hw4)
       go_roundw
       case rel=>exact⟨k+1,by omega,by go_num,by rw [HD2.out,List.map_append];exact HM5.out,HGG⟩
       case measure=>simp [intOf];omega
      ·have hbad:¬goodI t:=by
        rintro⟨k',v',h1,h2,h3⟩
        rw [hone] at h1
        cases h1
        exact hg ⟨h2,h3⟩
       have HBB:Hid (joinF ts=none):=Lib.hid (by rw [HJ.out,HD1.out,joinF_bad HNO.out hbad];rfl)
       clear hbad hone
       clear HNO HD1 hM3
       generalize t.kind=tk at *
       generalize t.val=tv at *
       by_cases h1:tk=k2
       ·subst h1
        have g2:((v2:Int)==tv)=false:=by rw [beq_eq_false_iff_ne];exact fun h=>hg ⟨rfl,h.symm⟩
        have g3:((v2:Int) != tv)=true:=by rw [bne,g2];rfl
        clear hg
        go_wp2_with fail
        go_ret2
        exact⟨Or.inr ⟨HBB.out,rfl⟩,hup3⟩
       ·have g2:((k2:Int)==tk)=false:=by rw [beq_eq_false_iff_ne];exact fun h=>h1 h.symm
        have g3:((k2:Int) != tk)=true:=by rw [bne,g2];rfl
        clear hg h1
        go_wp2_with fail
        go_ret2
        exact⟨Or.inr ⟨HBB.out,rfl⟩,hup3⟩
     ·have hbad:¬goodI t:=by
       rintro⟨k',v',h1,h2,h3⟩
       rw [hone] at h1
       cases h1
      have HBB:Hid (joinF ts=none):=Lib.hid (by rw [HJ.out,HD1.out,joinF_bad HNO.out hbad];rfl)
      have hup3:=hup2.alloc (.cells #[.int .i64 0,.string ⟨#[]⟩,.int .i64 0,.int .i64 0,.int .i64 0] 83)
      clear hbad hone hx2 hM2 hup2 hu2 hcx
      go_wp2_with fail
      go_ret2
      exact⟨Or.inr ⟨HBB.out,rfl⟩,hup3⟩
  ·have hge':¬(k:Int)<n:=by omega
   have HEND:Hid (joinF ts=some ((ts.map ITok.text).take k)):=Lib.hid (by
    rw [HJ.out,List.drop_eq_nil_of_le (by omega)]
    simp [joinF])
   have hjc:=joined_calls hM' HIN.out (by rw [hlt0];omega)
   have HJC:=Lib.hid hjc
   have hup:=hM'.up
   clear hjc hM'
   go_wp2_with fail
   refine HJC.out.mono ?_
   rintro e w2 ⟨rfl,hu2⟩
   go_wp2_with fail
   go_ret2
   exact⟨Or.inl ⟨_,HEND.out,by first | rfl | rw [List.map_take] | simp⟩,hup.trans_ext hu2⟩
end Go.Proofs.YtkhbpebpljdifaaGreatDoor
