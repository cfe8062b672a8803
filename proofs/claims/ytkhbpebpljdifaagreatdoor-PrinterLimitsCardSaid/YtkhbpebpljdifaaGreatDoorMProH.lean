/- Merged texts. -/
import Derived.Test.YtkhbpebpljdifaaGreatDoorMPrnH
set_option maxRecDepth 100000
set_option maxHeartbeats 25600000
namespace Go.Proofs.YtkhbpebpljdifaaGreatDoor
open Go.RowKit Go.PL Go.Maps
theorem pnode_calls (nd:Nd) (v:Value) (w:World) (P:Nat→Prop) (h:NdV w P nd v) (hk:kCz nd≤10000000) (hin:inN 10000000 nd) (hE:Env w∧SEnv w∧FEnv w∧PEnv w):Calls Tryz.prog 45 #[v] w fun e w'=>e=.returned (pairV (nodeF nd))∧Upto [] w w':=by
 have HCQ:=Lib.hid (fun u (hu:Upto [] w u)=>checkf_calls nd v u P (h.ext hu) hk hin (hE.1.ext hu) (hE.2.2.1.ext hu))
 have HN:=Lib.hid h
 obtain⟨o1,a1,a2,a3,s1,n1,m1,l1,l2,l3,rfl⟩:=h.six
 have hu1:Upto [] w (w.alloc (.cells #[.int .i64 o1,.slice a1 a2 a3,.int .i64 s1,.int .i64 n1,.int .i64 m1,.slice l1 l2 l3] 34)):=(Upto.refl [] w).alloc _
 have HU1:=Lib.hid hu1
 have hb:=kAq w (.cells #[.int .i64 o1,.slice a1 a2 a3,.int .i64 s1,.int .i64 n1,.int .i64 m1,.slice l1 l2 l3] 34)
 have HB1:=Lib.hid hb
 obtain⟨y0,y1,y2,y3,y4,y5⟩:=kAx hb
 by_cases hR:kSq kBj nd=0
 case neg =>
  obtain⟨R,hR2⟩:∃R,kSq kBj nd=R:=⟨_,rfl⟩
  have HPF:Hid (nodeF nd=([],R)):=Lib.hid (by unfold nodeF;rw [if_neg hR,hR2])
  rw [hR2] at HCQ hR
  have r1:((R:Int)==0)=false:=by rw [beq_eq_false_iff_ne];omega
  have r2:((R:Int) != 0)=true:=by rw [bne,r1];rfl
  clear hR hR2 hE hin hk hu1 hb h
  go_enter Tryz.func45,Tryz.ntmps45
  go_wp2_with fail
  refine (HCQ.out _ HU1.out).mono ?_
  rintro e w2 ⟨rfl,hu2⟩
  have HU2:=Lib.hid (HU1.out.trans_ext hu2)
  clear hu2
  go_wp2_with fail
  go_ret2
  exact⟨by rw [HPF.out];rfl,HU2.out⟩
 case pos =>
  obtain⟨hob,hg⟩:=check_ok (fun x=>kXz) hR
  have HPF:Hid (nodeF nd=cutP (jn (prT true nd))):=Lib.hid (by unfold nodeF;rw [if_pos hR])
  rw [hR] at HCQ
  have HEU:=Lib.hid (fun u (hu:Upto [] w u)=>(⟨hE.2.2.2.ext hu,hE.2.1.upto hu (by simp)⟩:PEnv u∧SEnv u))
  have HOB:=Lib.hid hob
  have HLQ:Hid ((jn (prT true nd)).length≤2000000000):=Lib.hid (by have:=jn_len hob true;omega)
  have HLT:Hid ((prT true nd).length≤2000000000):=Lib.hid (by have h1:=len_wts (prT true nd);have h2:=pr_le hob true;omega)
  clear hR hE hin hk hu1 hb h hob hg
  go_enter Tryz.func45,Tryz.ntmps45
  go_wp2_with fail
  refine (HCQ.out _ HU1.out).mono ?_
  rintro e w2 ⟨rfl,hu2⟩
  have HU2:=Lib.hid (HU1.out.trans_ext hu2)
  have hb2:=hu2.at HB1.out (by simp)
  have K3:=Lib.hid (Kp.new hb2)
  have HW3:=Lib.hid (WrI.new w2)
  have hb3:=K3.out.1
  obtain⟨z0,z1,z2,z3,z4,z5⟩:=kAx hb3
  clear hu2 hb2 hb3
  go_wp2_with fail
  refine (node_calls _ nd (Nat.le_refl _) HOB.out w2 w2.heap.size P _ (fun u hu=>HEU.out u (HU2.out.trans_ext hu)) (patom_calls (fun u hu=>(HEU.out u (HU2.out.trans_ext hu)).1)) (HN.out.ext HU2.out) true _ _ HW3.out (by have h2:=HLT.out;simp only [List.length_nil];omega)).mono ?_
  rintro e w5 ⟨rfl,hw5,hk5⟩
  rw [List.nil_append] at hw5
  have HW5:=Lib.hid hw5
  clear hw5 hk5
  go_wp2_with fail
  refine (text_calls w2 w5 w2.heap.size _ HW5.out (by rw [jn_txs];have h1:=HLQ.out;omega) (by rw [txs_len];have h2:=HLT.out;omega)).mono ?_
  rintro e w6 ⟨rfl,hu6⟩
  rw [jn_txs,←HPF.out]
  obtain⟨r,hr⟩:∃r,nodeF nd=r:=⟨_,rfl⟩
  rw [hr]
  have HRR:=Lib.hid hr
  clear hr
  have HU6:=Lib.hid ((HU2.out.trans_ext HW5.out.up).trans_ext hu6)
  clear hu6
  unfold pairV
  go_wp2_with fail
  go_ret2
  exact⟨by rw [HRR.out];rfl,HU6.out⟩
theorem real_ident {x:List UInt8} (h:Real 1 x 0):kBj x=true:=by
 rcases h with⟨b,-,-,h1,-⟩ | ⟨h1,h2,h3⟩
 ·cases h1
 ·unfold kBj
  rw [h3]
  simp only [Bool.and_eq_true,decide_eq_true_eq]
  exact⟨⟨h1,List.all_eq_true.2 h2⟩,by first | trivial | rfl⟩
theorem ok_form:∀(k:Nat) (nd:Nd),kCz nd≤k→okF nd→kKk kBj nd=0
 | 0,nd,hn,_=>by have:=kRw nd;omega
 | k+1,.mk op names so n m ls,hn,h=>by
  unfold kKk
  unfold kCz at hn
  unfold okF at h
  obtain⟨h1,h2,h3⟩:=h
  have hks:∀(l:List Nd),kBk l≤k→oksF l→kHx kBj l=0:=by
   intro l
   induction l with
   | nil=>intro _ _;unfold kHx;rfl
   | cons a l ih =>
    intro hl hf
    unfold oksF at hf
    simp only [kBk] at hl
    unfold kHx
    have ha:=ok_form k a (by omega) hf.1
    rw [if_neg (by rw [ha];simp)]
    exact ih (by omega) hf.2
  have hal:names.all kBj=true:=List.all_eq_true.2 (fun x hx=>real_ident (h1 x hx))
  have hl:=hks ls (by omega) h3
  have hk:kSw op=false:=by
   unfold kSw
   rcases h2 with h | h | h | h | h | h | h | h | h<;>simp<;>omega
  have hs:kBq op names.length ls.length=false:=by
   unfold kBq hasF
   rcases h2 with⟨h,rfl,rfl,-⟩ | ⟨h,h',hn1,rfl,-⟩ | ⟨rfl,hn1,rfl,-⟩ | ⟨rfl,hn1,rfl,-⟩ | ⟨rfl,hn1,rfl,-⟩ | ⟨rfl,hn1,hn2,rfl,-⟩ | ⟨rfl,rfl,hl1,-⟩ | ⟨h,h',rfl,hl1,-⟩ | ⟨h,h',hn1,hl1,-⟩
   ·rw [if_pos (by omega)];simp
   ·rw [if_neg (by omega),if_pos (by omega)];simp [hn1]
   ·simp [hn1]
   ·simp [hn1]
   ·simp [hn1]
   ·have a1:¬names.length<1:=by omega
    have a2:¬17<names.length:=by omega
    rw [if_neg (by omega),if_neg (by omega),if_neg (by omega),if_pos rfl]
    simp only [a1,a2,decide_false,Bool.or_false,List.length_nil]
    rfl
   ·simp [hl1]
   ·rw [if_neg (by omega),if_neg (by omega),if_neg (by omega),if_neg (by omega),if_neg (by omega),if_pos (by omega)];simp [hl1]
   ·rw [if_neg (by omega),if_neg (by omega),if_neg (by omega),if_neg (by omega),if_neg (by omega),if_neg (by omega)];simp [hn1,hl1]
  have hz:kGj op so n m=false:=by
   unfold kGj
   rcases h2 with h | h | h | h | h | h | h | h | h<;>simp<;>omega
  have hr:kGw op so n m=false:=by
   unfold kGw
   rcases h2 with h | h | h | h | h | h | h | h | h<;>simp<;>omega
  rw [hk,hs,hal,hz,hr]
  simpa using hl
theorem same_self (n:Nd):kPx n n=true:=by
 have h:=(alikeF_eq ⟨[],n⟩ ⟨[],n⟩).2 rfl
 unfold kYx at h
 simpa using h
theorem equal_to {n:Nd} (hb:okF n) (hg:kIz n=0) {v v':Value} {u:World} {P P':Nat→Prop} (h:NdV u P n v) (h':NdV u P' n v'):Calls Tryz.prog 28 #[v,v'] u fun e w'=>e=.returned (.bool true)∧Upto [] u w':=by
 have h1:=(great_lim hg).1
 have h2:=inN.big (by decide) _ (ok_in _ n (Nat.le_refl _) hb)
 have:=equal_calls _ n (Nat.le_refl _) (by omega) h2 n (by omega) h2 P P' v v' u h h'
 rwa [same_self] at this
def ltA:List UInt8:=[97,98,99,100,101,102,103,104,105,106,107,108,109,110,111,112]
def atN:Nd:=.mk 4 [ltA,ltA] 0 0 0 []
def chN:Nat→Nd
 | 0=>atN
 | i+1=>if i % 2=0 then .mk 11 [] 0 0 0 [chN i] else .mk 12 [] 0 0 0 [atN,chN i]
theorem chN_not {i:Nat} (h:i % 2=0):chN (i+1)=.mk 11 [] 0 0 0 [chN i]:=by rw [chN,if_pos h]
theorem chN_and {i:Nat} (h:¬i % 2=0):chN (i+1)=.mk 12 [] 0 0 0 [atN,chN i]:=by rw [chN,if_neg h]
theorem ltA_real:Real 1 ltA 0:=Or.inr ⟨by decide,by decide,rfl⟩
theorem atN_ok:okF atN:=by
 unfold atN okF oksF
 refine⟨?_,Or.inr (Or.inl ⟨by decide,by decide,rfl,rfl,rfl,rfl,rfl⟩),trivial⟩
 intro x hx
 simp only [List.mem_cons,List.not_mem_nil,or_false,or_self] at hx
 rw [hx]
 exact ltA_real
theorem chN_ok:∀i,okF (chN i)
 | 0=>atN_ok
 | i+1=>by
  have ih:=chN_ok i
  by_cases h:i % 2=0
  ·rw [chN_not h]
   unfold okF oksF oksF
   refine⟨by simp,?_,ih,trivial⟩
   exact Or.inr (Or.inr (Or.inr (Or.inr (Or.inr (Or.inr (Or.inl ⟨rfl,rfl,rfl,rfl,rfl,rfl⟩))))))
  ·rw [chN_and h]
   unfold okF oksF oksF oksF
   refine⟨by simp,?_,atN_ok,ih,trivial⟩
   exact Or.inr (Or.inr (Or.inr (Or.inr (Or.inr (Or.inr (Or.inr (Or.inl ⟨by decide,by decide,rfl,rfl,rfl,rfl,rfl⟩)))))))
theorem chN_depth:∀i,kNw (chN i)=i+1
 | 0=>by simp [chN,atN,kNw,kLz]
 | i+1=>by
  have ih:=chN_depth i
  by_cases h:i % 2=0
  ·rw [chN_not h]
   simp only [kNw,kLz,ih]
   omega
  ·rw [chN_and h]
   simp only [kNw,kLz,ih,atN]
   omega
theorem chN_size:∀i,kCz (chN i)≤2*i+1
 | 0=>by simp [chN,atN,kCz,kBk]
 | i+1=>by
  have ih:=chN_size i
  by_cases h:i % 2=0
  ·rw [chN_not h]
   simp only [kCz,kBk]
   omega
  ·rw [chN_and h]
   simp only [kCz,kBk,atN]
   omega
theorem chN_op:∀i,opF (chN i)=if i=0 then 4 else if i % 2=0 then 12 else 11
 | 0=>rfl
 | i+1=>by
  by_cases h:i % 2=0
  ·rw [chN_not h,if_neg (by omega),if_neg (by omega)];rfl
  ·rw [chN_and h,if_neg (by omega),if_pos (by omega)];rfl
theorem par_small {op c:Int} {place:Nat} (last:Bool) (hc:c≤12):parB op place c last=kMz op place c:=by
 unfold parB
 rw [show decide (15<c)=false from decide_eq_false (by omega)]
 simp
theorem chN_lv:∀i last,lvF last (chN i)+(if i % 2=0∧0<i then 1 else 0)≤i
 | 0,last=>by
  unfold chN atN lvF
  simp
 | i+1,last=>by
  have ih:=chN_lv i
  have ho:=chN_op i
  by_cases h:i % 2=0
  ·rw [chN_not h,lvF,if_neg (by decide),if_pos rfl]
   have h1:=ih last
   have h2:=ih true
   simp only [lvsF,List.getD_cons_zero,opNd,List.map_cons,List.map_nil]
   rw [if_neg (by omega)]
   by_cases h0:i=0
   ·subst h0
    rw [if_pos rfl] at ho
    rw [ho,par_small _ (by decide),show kMz 11 0 4=false by decide]
    simp only [parL] at *
    rw [if_neg (by omega)] at h1
    simp only [Bool.false_eq_true,if_false]
    omega
   ·rw [if_neg h0,if_pos h] at ho
    rw [ho,par_small _ (by decide),show kMz 11 0 12=true by decide]
    simp only [parL] at *
    rw [if_pos (by omega)] at h2
    simp only [if_true]
    omega
  ·rw [chN_and h,lvF,if_neg (by decide),if_neg (by decide),if_pos (by decide)]
   have h1:=ih last
   have h2:=ih true
   simp only [lvsF,List.getD_cons_zero,List.getD_cons_succ,opNd,List.map_cons,List.map_nil]
   rw [if_neg (by omega),if_neg h] at ho
   rw [if_pos (by omega)]
   rw [if_neg (by omega)] at h1
   rw [ho,show opF atN=4 from rfl,par_small _ (by decide),par_small _ (by decide),show kMz 12 0 4=false by decide,show kMz 12 1 11=false by decide]
   have e:∀b,lvF b atN=0:=fun b=>by unfold atN lvF;rfl
   simp only [parL,e,Bool.false_eq_true,if_false]
   omega
theorem atN_wts (last:Bool):wts (prT last atN)≤38:=by
 unfold atN prT
 rw [if_pos (by decide)]
 decide
theorem chN_wts:∀i last,wts (prT last (chN i))≤38+42*i
 | 0,last=>atN_wts last
 | i+1,last=>by
  have ih:=chN_wts i
  have h1:=ih last
  have h2:=ih true
  by_cases h:i % 2=0
  ·rw [chN_not h,prT,if_neg (by decide),if_pos rfl]
   simp only [prsT,List.getD_cons_zero,opNd,List.map_cons,List.map_nil,kDw]
   have:=wts_par (parB 11 0 (opF (chN i)) last) (prT true (chN i)) (prT last (chN i))
   have e:wt (kyT [110,111,116])=4:=rfl
   omega
  ·rw [chN_and h,prT,if_neg (by decide),if_neg (by decide),if_pos (by decide)]
   have ho:=chN_op i
   rw [if_neg (by omega),if_neg h] at ho
   simp only [prsT,List.getD_cons_zero,List.getD_cons_succ,opNd,List.map_cons,List.map_nil,kDw,wts_app]
   rw [ho,show opF atN=4 from rfl,par_small _ (by decide),par_small _ (by decide),show kMz 12 0 4=false by decide,show kMz 12 1 11=false by decide]
   simp only [parT,Bool.false_eq_true,if_false]
   have e:wt (kyT (conW 12))=4:=by decide
   have:=atN_wts false
   omega
theorem chN_great (i:Nat) (hi:i≤300):kIz (chN i)=if 256<i+1 then 16 else 0:=by
 have:=chN_size i
 unfold kIz
 rw [chN_depth,if_neg (by omega)]
theorem chN_check (i:Nat) (hi:i≤300):kSq kBj (chN i)=if 256<i+1 then 16 else 0:=by
 unfold kSq
 rw [ok_form _ _ (Nat.le_refl _) (chN_ok i),chN_great i hi]
 rfl
theorem chN_ne (i:Nat):prT true (chN i)≠[]:=by
 cases i with
 | zero=>unfold chN atN prT;rw [if_pos (by decide)];decide
 | succ i =>
  by_cases h:i % 2=0
  ·rw [chN_not h,prT,if_neg (by decide),if_pos rfl];simp
  ·rw [chN_and h,prT,if_neg (by decide),if_neg (by decide),if_pos (by decide)];simp
theorem chN_len (i:Nat) (hi:i≤300):(jn (prT true (chN i))).length≤65536:=by
 have h1:=chN_wts i true
 have h2:=jn_wts (prT true (chN i)) (chN_ne i)
 omega
theorem chN_node (i:Nat) (hi:i≤255):nodeF (chN i)=(jn (prT true (chN i)),0):=by
 unfold nodeF
 rw [chN_check i (by omega),if_neg (show ¬256<i+1 by omega),if_pos rfl]
 unfold cutP
 rw [if_neg (by have:=chN_len i (by omega);omega)]
theorem chN_node_bad (i:Nat) (h1:256≤i) (h2:i≤300):nodeF (chN i)=([],16):=by
 unfold nodeF
 rw [chN_check i h2,if_pos (show 256<i+1 by omega),if_neg (by decide)]
theorem chN_read (i:Nat) (hi:i≤255):kGx bareP (jn (prT true (chN i)))=⟨⟨[],chN i⟩,0,0,0⟩:=by
 refine node_read (chN_ok i) ?_ ?_ (chN_len i (by omega))
 ·rw [chN_great i (by omega),if_neg (by omega)]
 ·have:=chN_lv i true
  omega
theorem chN_in (i:Nat):inN 10000000 (chN i):=ok_in _ _ (Nat.le_refl _) (chN_ok i)
theorem chN_big (i:Nat):bigN (chN i):=inN.big (by decide) _ (chN_in i)
theorem ownsRow_six (w:World):(w.alloc (.cells #[] 25)).ownsRow 0 25 6 (.slice (some ⟨w.heap.size,0,none⟩) 0 0) 0 [] :=
 ⟨rfl,Or.inr ⟨w.heap.size,0,#[],rfl,Nat.zero_le _,heap_alloc_new w _,Nat.le_refl _,by decide,rfl,rfl⟩⟩
structure LmI (w wr:World) (c:Nat→Nat→Value) (v:Value) (ms:List Nd):Prop where
 old:Upto [] w wr
 a:wr.heap[w.heap.size+1]?=some (.cells #[.int .i64 4,.slice (some ⟨w.heap.size,0,none⟩) 2 2,.int .i64 0,.int .i64 0,.int .i64 0,.slice none 0 0] 25 (0,0))
 n:wr.heap[w.heap.size+2]?=some (.cells #[.int .i64 4,.slice (some ⟨w.heap.size,0,none⟩) 2 2,.int .i64 0,.int .i64 0,.int .i64 0,.slice none 0 0] 25 (0,0))
 at0:NdV wr (fun b=>b=w.heap.size) atN (.agg #[.int .i64 4,.slice (some ⟨w.heap.size,0,none⟩) 2 2,.int .i64 0,.int .i64 0,.int .i64 0,.slice none 0 0])
 row:BkRow w wr (w.heap.size+1) c v ms
 own:∀g,v.ownBlock=some g→w.heap.size+3≤g
theorem LmI.ext {w wr w':World} {c:Nat→Nat→Value} {v:Value} {ms:List Nd} (h:LmI w wr c v ms) (hu:Upto [] wr w'):LmI w w' c v ms :=
 ⟨h.old.trans_ext hu,hu.at h.a (by simp),hu.at h.n (by simp),h.at0.ext hu,h.row.upto hu (by simp),h.own⟩
theorem LmI.app {w wr w5:World} {c:Nat→Nat→Value} {v:Value} {ms:List Nd} {m:Nd} {v0 v1 v2 v3 v4 v5:Value} {b':Option Addr} {c' k:Nat} (h:LmI w wr c v ms) (hk:ms.length=k)
  (hm:NdV wr (Lr w (w.heap.size+1) v) m (.agg #[v0,v1,v2,v3,v4,v5])) (ho:w5.ownsRow 0 25 6 (.slice b' (k+1) c') (k+1) (cellsN c k++[v0,v1,v2,v3,v4,v5])) (hu:Upto v.ownBlock.toList wr w5)
  (hw:∀g,(Value.slice b' (k+1) c').ownBlock=some g→v.ownBlock=some g∨wr.heap.size≤g):LmI w w5 (addC c k v0 v1 v2 v3 v4 v5) (.slice b' (k+1) c') (ms++[m]):=by
 subst hk
 have hs:=h.old.size
 have ha:=kAk h.a
 have hn:=kAk h.n
 have key:∀k∈v.ownBlock.toList,w.heap.size+3≤k:=fun k hk=>h.own k (Option.mem_toList.1 hk)
 refine⟨h.old.trans hu (fun k hk=>Or.inr (by have:=key k hk;omega)),hu.at h.a (fun hm=>by have:=key _ hm;omega),hu.at h.n (fun hm=>by have:=key _ hm;omega),h.at0.upto hu (fun b hb _ hm=>by have:=key _ hm;omega),h.row.app hs ha hm ho hu hw,fun g hg=>?_⟩
 rcases hw g hg with h1 | h1
 ·exact h.own g h1
 ·omega
theorem LmI.list {w wr:World} {c:Nat→Nat→Value} {a:Option Addr} {k cp:Nat} {ms:List Nd} (h:LmI w wr c (.slice a k cp) ms):k=ms.length∧LsAt wr (fun b=>New w b∧b≠w.heap.size+1∧b<wr.heap.size) a ms:=by
 obtain⟨va,vc,hve,-⟩:=kJj h.row.row
 simp only [Value.slice.injEq] at hve
 obtain⟨rfl,rfl,rfl⟩:=hve
 refine⟨rfl,?_⟩
 have hl:=h.row.list (Q:=fun b=>New w b∧b≠w.heap.size+1) (fun b hb=>⟨hb.1,hb.2.1⟩) (fun g hg=>h.row.own g hg)
 have hn:NdV wr (fun b=>New w b∧b≠w.heap.size+1) (.mk 0 [] 0 0 0 ms) (.agg #[.int .i64 0,.slice none 0 0,.int .i64 0,.int .i64 0,.int .i64 0,.slice a ms.length cp]):=by
  unfold NdV
  exact⟨_,_,rfl,SlP.nil,hl⟩
 obtain⟨a1,c1,a2,c2,e,-,hls⟩:=(hn.mono (Q:=fun b=>New w b∧b≠w.heap.size+1∧b<wr.heap.size) (fun b hb hc=>⟨hb.1,hb.2,hc.lt⟩)).open
 simp only [Value.agg.injEq,Array.mk.injEq,List.cons.injEq,Value.slice.injEq,and_true] at e
 obtain⟨-,-,-,-,-,rfl,-,rfl⟩:=e
 exact hls
theorem LmI.none {w wr:World} {c:Nat→Nat→Value} {v:Value} {ms:List Nd} (h:LmI w wr c v ms):LmI w wr (fun _ _=>undef) (.slice none 0 0) [] :=
 ⟨h.old,h.a,h.n,h.at0,⟨by simpa [cellsN] using World.ownsRow_nil _ 0 25 6,by simp,by intro g hg;cases hg⟩,by intro g hg;cases hg⟩
theorem sizes_take {l:List Nd} {i:Nat} {x:Nd} (hx:l[i]?=some x):kBk (l.take (i+1))=kBk (l.take i)+kCz x:=by
 obtain⟨hi,rfl⟩:=List.getElem?_eq_some_iff.1 hx
 rw [List.take_succ_eq_append_getElem hi,sizesF_append]
 simp [kBk]
theorem insN_append {M:Nat}:∀(a b:List Nd),insN M a→insN M b→insN M (a++b)
 | [],b,_,h=>h
 | x::a,b,h,h2=>by
  unfold insN at h ⊢
  exact⟨h.1,insN_append a b h.2 h2⟩
theorem sizes_rep:∀k,kBk (List.replicate k atN)=k
 | 0=>by simp [kBk]
 | k+1=>by rw [List.replicate_succ,kBk,sizes_rep k];simp [atN,kCz,kBk];omega
theorem insN_rep:∀k,insN 10000000 (List.replicate k atN)
 | 0=>by simp [insN]
 | k+1=>by
  rw [List.replicate_succ,insN]
  exact⟨chN_in 0,insN_rep k⟩
structure LmU (w W2 wr:World) (c:Nat→Nat→Value) (v:Value) (us ms:List Nd) (i j:Nat):Prop where
 lm:LmI w wr c v us
 len:us.length=j
 up:Upto [] W2 wr
 own:∀g,v.ownBlock=some g→W2.heap.size≤g
 sum:kBk us+us.length=kBk (ms.take i)+i
 ins:insN 10000000 us
theorem LmU.app {w W2 wr w10 w5:World} {c:Nat→Nat→Value} {ua:Option Addr} {uc i i' j:Nat} {us ms:List Nd} {m:Nd} {v0 v1 v2 v3 v4 v5:Value} {b':Option Addr} {c':Nat} (h:LmU w W2 wr c (.slice ua j uc) us ms i j) (hu10:Upto [] wr w10)
  (hm:NdV w10 (fun b=>New w b∧b≠w.heap.size+1∧(b<W2.heap.size∨wr.heap.size≤b)) m (.agg #[v0,v1,v2,v3,v4,v5])) (ho:w5.ownsRow 0 25 6 (.slice b' (j+1) c') (j+1) (cellsN c j++[v0,v1,v2,v3,v4,v5])) (hu:Upto (Value.slice ua j uc).ownBlock.toList w10 w5)
  (hw:∀g,(Value.slice b' (j+1) c').ownBlock=some g→(Value.slice ua j uc).ownBlock=some g∨w10.heap.size≤g) (hs:kBk (ms.take i')+i'=kBk (ms.take i)+i+kCz m+1) (hin:inN 10000000 m):LmU w W2 w5 (addC c j v0 v1 v2 v3 v4 v5) (.slice b' (j+1) c') (us++[m]) ms i' (j+1):=by
 have hlt:∀g,(Value.slice ua j uc).ownBlock=some g→g<wr.heap.size:=fun g hg=>by
  obtain⟨cur,hh⟩:=kOq h.lm.row.row hg
  exact kAk hh
 have h1:=h.sum
 have h2:=h.len
 refine⟨(h.lm.ext hu10).app h.len (hm.mono (fun b hb _=>⟨hb.1,hb.2.1,fun e=>?_⟩)) ho hu hw,by simp [h.len],(h.up.trans_ext hu10).trans hu (fun k hk=>Or.inr (h.own k (Option.mem_toList.1 hk))),fun g hg=>?_,?_,insN_append _ _ h.ins ⟨hin,trivial⟩⟩
 ·have h3:=h.own b e
  have h4:=hlt b e
  rcases hb.2.2 with h5 | h5<;>omega
 ·rcases hw g hg with h3 | h3
  ·exact h.own g h3
  ·have h4:=h.up.size
   have h5:=hu10.size
   omega
 ·rw [sizesF_append,List.length_append]
  simp only [kBk,List.length_singleton]
  omega
theorem LmU.start {w W2:World} {c:Nat→Nat→Value} {v:Value} {ms:List Nd} (h:LmI w W2 c v ms):LmU w W2 W2 (fun _ _=>undef) (.slice none 0 0) [] ms 0 0 :=
 ⟨h.none,rfl,Upto.refl [] W2,(by intro g hg;cases hg),(by simp [kBk]),trivial⟩
theorem LmU.pair {w W2 wr w10:World} {c:Nat→Nat→Value} {v:Value} {us ms:List Nd} {i j:Nat} {x y:Nd} {a0 a1 a2 a3 a4 a5 b0 b1 b2 b3 b4 b5:Value} {g:Nat} (h:LmU w W2 wr c v us ms i j) (hx:NdV wr (fun b=>New w b∧b≠w.heap.size+1∧b<W2.heap.size) x (.agg #[a0,a1,a2,a3,a4,a5])) (hy:NdV wr (fun b=>New w b∧b≠w.heap.size+1∧b<W2.heap.size) y (.agg #[b0,b1,b2,b3,b4,b5])) (hu:Upto [] wr w10)
  (hg:w10.heap[g]?=some (.cells #[a0,a1,a2,a3,a4,a5,b0,b1,b2,b3,b4,b5] 25 (0,0))) (hgl:wr.heap.size≤g):NdV w10 (fun b=>New w b∧b≠w.heap.size+1∧(b<W2.heap.size∨wr.heap.size≤b)) (.mk 12 [] 0 0 0 [x,y]) (.agg #[.int .i64 12,.slice none 0 0,.int .i64 0,.int .i64 0,.int .i64 0,.slice (some ⟨g,0,none⟩) 2 2]):=by
 have h1:=kAk h.lm.a
 have h2:=h.lm.old.size
 have hmo:∀b,(New w b∧b≠w.heap.size+1∧b<W2.heap.size)→IsC w10 b→New w b∧b≠w.heap.size+1∧(b<W2.heap.size∨wr.heap.size≤b):=fun b hb _=>⟨hb.1,hb.2.1,Or.inl hb.2.2⟩
 exact NdV.two (names:=[]) SlP.nil ((hx.ext hu).mono hmo) ((hy.ext hu).mono hmo) ⟨by unfold New;omega,by omega,Or.inr hgl⟩ hg
theorem pair_in {x y:Nd} (hx:inN 10000000 x) (hy:inN 10000000 y):inN 10000000 (.mk 12 [] 0 0 0 [x,y]):=by
 unfold inN insN insN insN
 exact⟨by simp,by simp,by simp,hx,hy,trivial⟩
def lenOf:Value→Nat
 | .slice _ n _=>n
 | _=>0
structure ChI (w wr:World) (i:Nat):Prop where
 old:Upto [] w wr
 a:wr.heap[w.heap.size+1]?=some (.cells #[.int .i64 4,.slice (some ⟨w.heap.size,0,none⟩) 2 2,.int .i64 0,.int .i64 0,.int .i64 0,.slice none 0 0] 25 (0,0))
 at0:NdV wr (fun b=>b=w.heap.size) atN (.agg #[.int .i64 4,.slice (some ⟨w.heap.size,0,none⟩) 2 2,.int .i64 0,.int .i64 0,.int .i64 0,.slice none 0 0])
 st:∃(xo:Int) (xn1:Option Addr) (xn2 xn3:Nat) (xs xm xq:Int) (xl1:Option Addr) (xl2 xl3:Nat),wr.heap[w.heap.size+1+1]?=some (.cells #[.int .i64 xo,.slice xn1 xn2 xn3,.int .i64 xs,.int .i64 xm,.int .i64 xq,.slice xl1 xl2 xl3] 25 (0,0))∧NdV wr (fun b=>New w b∧b≠w.heap.size+1+1) (chN i) (.agg #[.int .i64 xo,.slice xn1 xn2 xn3,.int .i64 xs,.int .i64 xm,.int .i64 xq,.slice xl1 xl2 xl3])
theorem ChI.ext {w wr w':World} {i:Nat} (h:ChI w wr i) (hu:Upto [] wr w'):ChI w w' i:=by
 obtain⟨xo,xn1,xn2,xn3,xs,xm,xq,xl1,xl2,xl3,h1,h2⟩:=h.st
 exact⟨h.old.trans_ext hu,hu.at h.a (by simp),h.at0.ext hu,_,_,_,_,_,_,_,_,_,_,hu.at h1 (by simp),h2.ext hu⟩
theorem LmI.chain {w wr:World} {c:Nat→Nat→Value} {v:Value} {ms:List Nd} (h:LmI w wr c v ms):ChI w wr 0 :=
 ⟨h.old,h.a,h.at0,_,_,_,_,_,_,_,_,_,_,h.n,h.at0.mono (fun b hb _=>⟨by unfold New;omega,by omega⟩)⟩
theorem ChI.not {w wr:World} {i:Nat} (h:ChI w wr i) (hi:i % 2=0) {xo:Int} {xn1:Option Addr} {xn2 xn3:Nat} {xs xm xq:Int} {xl1:Option Addr} {xl2 xl3:Nat} (h1:wr.heap[w.heap.size+1+1]?=some (.cells #[.int .i64 xo,.slice xn1 xn2 xn3,.int .i64 xs,.int .i64 xm,.int .i64 xq,.slice xl1 xl2 xl3] 25 (0,0))) (h2:NdV wr (fun b=>New w b∧b≠w.heap.size+1+1) (chN i) (.agg #[.int .i64 xo,.slice xn1 xn2 xn3,.int .i64 xs,.int .i64 xm,.int .i64 xq,.slice xl1 xl2 xl3])) :
  ChI w ((((((((wr.alloc (.cells #[.int .i64 xo,.slice xn1 xn2 xn3,.int .i64 xs,.int .i64 xm,.int .i64 xq,.slice xl1 xl2 xl3] 25)).setCell ⟨w.heap.size+1+1,0,none⟩ (.int .i64 11)).setCell ⟨w.heap.size+1+1,1,none⟩ (.slice none 0 0)).setCell ⟨w.heap.size+1+1,2,none⟩ (.int .i64 0)).setCell ⟨w.heap.size+1+1,3,none⟩ (.int .i64 0)).setCell ⟨w.heap.size+1+1,4,none⟩ (.int .i64 0)).setCell ⟨w.heap.size+1+1,5,none⟩ (.slice (some ⟨wr.heap.size,0,none⟩) 1 1))) (i+1):=by
 have hal:Upto [] wr (wr.alloc (.cells #[.int .i64 xo,.slice xn1 xn2 xn3,.int .i64 xs,.int .i64 xm,.int .i64 xq,.slice xl1 xl2 xl3] 25)):=(Upto.refl [] wr).alloc _
 have hst:=nd_self (wr.alloc (.cells #[.int .i64 xo,.slice xn1 xn2 xn3,.int .i64 xs,.int .i64 xm,.int .i64 xq,.slice xl1 xl2 xl3] 25)) (w.heap.size+1+1) (.int .i64 11) (.slice none 0 0) (.int .i64 0) (.int .i64 0) (.int .i64 0) (.slice (some ⟨wr.heap.size,0,none⟩) 1 1)
 have hlt:=kAk h1
 have hk:=hst.at (kAq wr (.cells #[.int .i64 xo,.slice xn1 xn2 xn3,.int .i64 xs,.int .i64 xm,.int .i64 xq,.slice xl1 xl2 xl3] 25)) (by simp;omega)
 have hn:=(h2.ext hal).upto hst (fun b hb _ hm=>by simp at hm;exact hb.2 hm)
 refine⟨nd_up (h.old.trans_ext hal) (Or.inr (by omega)) ..,hst.at (hal.at h.a (by simp)) (by simp),(h.at0.ext hal).upto hst (fun b hb _ hm=>by simp at hm;omega),_,_,_,_,_,_,_,_,_,_,kEz (hal.at h1 (by simp)) ..,?_⟩
 rw [chN_not hi]
 exact NdV.one (names:=[]) SlP.nil hn ⟨by unfold New;omega,by omega⟩ hk
theorem ChI.and {w wr:World} {i:Nat} (h:ChI w wr i) (hi:¬i % 2=0) {xo:Int} {xn1:Option Addr} {xn2 xn3:Nat} {xs xm xq:Int} {xl1:Option Addr} {xl2 xl3:Nat} (h1:wr.heap[w.heap.size+1+1]?=some (.cells #[.int .i64 xo,.slice xn1 xn2 xn3,.int .i64 xs,.int .i64 xm,.int .i64 xq,.slice xl1 xl2 xl3] 25 (0,0))) (h2:NdV wr (fun b=>New w b∧b≠w.heap.size+1+1) (chN i) (.agg #[.int .i64 xo,.slice xn1 xn2 xn3,.int .i64 xs,.int .i64 xm,.int .i64 xq,.slice xl1 xl2 xl3])) :
  ChI w ((((((((wr.alloc (.cells #[.int .i64 4,.slice (some ⟨w.heap.size,0,none⟩) 2 2,.int .i64 0,.int .i64 0,.int .i64 0,.slice none 0 0,.int .i64 xo,.slice xn1 xn2 xn3,.int .i64 xs,.int .i64 xm,.int .i64 xq,.slice xl1 xl2 xl3] 25)).setCell ⟨w.heap.size+1+1,0,none⟩ (.int .i64 12)).setCell ⟨w.heap.size+1+1,1,none⟩ (.slice none 0 0)).setCell ⟨w.heap.size+1+1,2,none⟩ (.int .i64 0)).setCell ⟨w.heap.size+1+1,3,none⟩ (.int .i64 0)).setCell ⟨w.heap.size+1+1,4,none⟩ (.int .i64 0)).setCell ⟨w.heap.size+1+1,5,none⟩ (.slice (some ⟨wr.heap.size,0,none⟩) 2 2))) (i+1):=by
 have hal:Upto [] wr (wr.alloc (.cells #[.int .i64 4,.slice (some ⟨w.heap.size,0,none⟩) 2 2,.int .i64 0,.int .i64 0,.int .i64 0,.slice none 0 0,.int .i64 xo,.slice xn1 xn2 xn3,.int .i64 xs,.int .i64 xm,.int .i64 xq,.slice xl1 xl2 xl3] 25)):=(Upto.refl [] wr).alloc _
 have hst:=nd_self (wr.alloc (.cells #[.int .i64 4,.slice (some ⟨w.heap.size,0,none⟩) 2 2,.int .i64 0,.int .i64 0,.int .i64 0,.slice none 0 0,.int .i64 xo,.slice xn1 xn2 xn3,.int .i64 xs,.int .i64 xm,.int .i64 xq,.slice xl1 xl2 xl3] 25)) (w.heap.size+1+1) (.int .i64 12) (.slice none 0 0) (.int .i64 0) (.int .i64 0) (.int .i64 0) (.slice (some ⟨wr.heap.size,0,none⟩) 2 2)
 have hlt:=kAk h1
 have hk:=hst.at (kAq wr (.cells #[.int .i64 4,.slice (some ⟨w.heap.size,0,none⟩) 2 2,.int .i64 0,.int .i64 0,.int .i64 0,.slice none 0 0,.int .i64 xo,.slice xn1 xn2 xn3,.int .i64 xs,.int .i64 xm,.int .i64 xq,.slice xl1 xl2 xl3] 25)) (by simp;omega)
 have hn:=(h2.ext hal).upto hst (fun b hb _ hm=>by simp at hm;exact hb.2 hm)
 have ha:=(h.at0.ext hal).upto hst (fun b hb _ hm=>by simp at hm;omega)
 refine⟨nd_up (h.old.trans_ext hal) (Or.inr (by omega)) ..,hst.at (hal.at h.a (by simp)) (by simp),ha,_,_,_,_,_,_,_,_,_,_,kEz (hal.at h1 (by simp)) ..,?_⟩
 rw [chN_and hi]
 exact NdV.two (names:=[]) SlP.nil (ha.mono (fun b hb _=>⟨by unfold New;omega,by omega⟩)) hn ⟨by unfold New;omega,by omega⟩ hk
def RtP (w0:World) (nd:Nd) (v:Value):Prop:=∀(last:Bool) u,Upto [] w0 u→Calls Tryz.prog 73 #[v,.bool last] u fun e w'=>e=.returned (.string ⟨(jn (prT last nd)).toArray⟩)∧Upto [] u w'
theorem ratom_calls {w0:World} {P:Nat→Prop} (op so n m:Int) (names:List (List UInt8)) (l:List Nd) (v:Value) (hok:okF (.mk op names so n m l)) (hop:op<11) (h:NdV w0 P (.mk op names so n m l) v):∀u,Upto [] w0 u→Calls Tryz.prog 111 #[v] u fun e w'=>e=.returned (.string ⟨(jn (kIk op names n m)).toArray⟩)∧Upto [] u w':=by
 intro u hu
 obtain⟨a1,c1,a2,c2,rfl,hs,-⟩:=(h.ext hu).open
 unfold okF at hok
 obtain⟨hnm,hc,-⟩:=hok
 have hx16:∀x∈names,x.length≤16:=fun x hx=>kUx (hnm x hx)
 have cell:∀j x,names[j]?=some x→∃g o,a1=some ⟨g,o,none⟩∧u.cell? ⟨g,o+j,none⟩=some (.string ⟨x.toArray⟩):=fun j x hj=>by
  obtain⟨a,c,he,hg⟩:=hs.get
  simp only [Value.slice.injEq] at he
  obtain⟨rfl,-,rfl⟩:=he
  exact hg j _ (by rw [List.getElem?_map,hj];rfl)
 rcases hc with⟨h1,h2,h3,rfl,rfl,rfl⟩ | ⟨h1,h1',h2,h3,rfl,rfl,rfl⟩ | ⟨rfl,h2,h3,rfl,h4,h5,rfl⟩ | ⟨rfl,h2,h3,rfl,h4,h5,h6⟩ | ⟨rfl,h2,h3,rfl,rfl,rfl⟩ | ⟨rfl,h2,h2',h3,rfl,rfl,rfl⟩ | ⟨rfl,-⟩ | ⟨h1,h2,-⟩ | ⟨h1,h2,-⟩
 ·subst h2
  rcases h1 with rfl | rfl
  ·rw [atom_true]
   exact ratom_true _ _ _ _ _ _ _ _ _ u
  ·rw [atom_false]
   exact ratom_false _ _ _ _ _ _ _ _ _ u
 ·obtain⟨k,rfl⟩:=kUj (show 0≤op by omega)
  obtain⟨x,y,rfl⟩:=two_of h2
  obtain⟨g,o,rfl,d0⟩:=cell 0 x rfl
  obtain⟨g',o',he,d1⟩:=cell 1 y rfl
  simp only [Option.some.injEq,Addr.mk.injEq,and_true] at he
  obtain⟨rfl,rfl⟩:=he
  rw [atom_two (by omega) (by omega)]
  exact ratom_two _ _ _ k (by omega) (by omega) g o _ _ _ _ _ x y (by have:=hx16 x (by simp);omega) (by have:=hx16 y (by simp);omega) u d0 d1 (by simp)
 ·obtain⟨q,rfl⟩:=kUj h4
  obtain⟨x,rfl⟩:=one_of h2
  obtain⟨g,o,rfl,d0⟩:=cell 0 x rfl
  rw [atom_is]
  exact ratom_is _ _ q (by omega) g o _ _ _ _ _ x (by have:=hx16 x (by simp);omega) u d0 (by simp)
 ·obtain⟨q,rfl⟩:=kUj h4
  obtain⟨p,rfl⟩:=kUj (show 0≤m by omega)
  obtain⟨x,rfl⟩:=one_of h2
  obtain⟨g,o,rfl,d0⟩:=cell 0 x rfl
  rw [atom_size]
  exact ratom_size _ q p (by omega) (by omega) g o _ _ _ _ _ x (by have:=hx16 x (by simp);omega) u d0 (by simp)
 ·obtain⟨x,rfl⟩:=one_of h2
  obtain⟨g,o,rfl,d0⟩:=cell 0 x rfl
  rw [atom_one]
  exact ratom_one _ _ _ g o _ _ _ _ _ x (by have:=hx16 x (by simp);omega) u d0 (by simp)
 ·obtain⟨f,ys,rfl⟩:=cons_of h2
  obtain⟨g,o,rfl,d0⟩:=cell 0 f rfl
  rw [atom_call]
  refine ratom_call _ _ _ g o _ _ _ _ f ys (f::ys) rfl (by omega) hx16 u (fun i x hi=>?_)
  obtain⟨g',o',he,d1⟩:=cell i x hi
  simp only [Option.some.injEq,Addr.mk.injEq,and_true] at he
  obtain⟨rfl,rfl⟩:=he
  exact d1
 ·omega
 ·omega
 ·omega
theorem binds_calls (k:Nat) (h16:16≤k) (h18:k<18) (so nn mm:Int) (g o b2 b3:Nat) (d1:Option Addr) (d2 d3:Nat) (x:List UInt8) (hlx:x.length≤1000000000) (w:World) (c1:w.cell? ⟨g,o,none⟩=some (.string ⟨x.toArray⟩)) (hb2:1≤b2):Calls Tryz.prog 113 #[.agg #[.int .i64 (k:Int),.slice (some ⟨g,o,none⟩) b2 b3,.int .i64 so,.int .i64 nn,.int .i64 mm,.slice d1 d2 d3]] w fun e w'=>e=.returned (.string ⟨(quW (k:Int)++[32]++kOj so++[32]++x++[32,58]).toArray⟩)∧Upto [] w w':=by
 have hb2I:(0:Int)<b2:=by omega
 have hwl:=wordsF_len k
 have HWD:=Lib.hid (fun u=>word_calls k (by omega) u)
 rw [refW_word (by omega) (by omega),←quW_word ⟨h16,h18⟩] at HWD
 rw [←quW_word ⟨h16,h18⟩] at hwl
 have HSO:=Lib.hid (fun u=>sorted_calls so u)
 have hsl:(kOj so).length≤10:=by
  unfold kOj
  split
  ·decide
  split
  ·decide
  split
  ·decide
  split
  ·decide
  ·decide
 have hu1:Upto [] w (w.alloc (.cells #[.int .i64 (k:Int),.slice (some ⟨g,o,none⟩) b2 b3,.int .i64 so,.int .i64 nn,.int .i64 mm,.slice d1 d2 d3] 25)):=(Upto.refl [] w).alloc _
 have HU:=Lib.hid hu1
 replace c1:=kAw hu1 c1
 have hb:=kAq w (.cells #[.int .i64 (k:Int),.slice (some ⟨g,o,none⟩) b2 b3,.int .i64 so,.int .i64 nn,.int .i64 mm,.slice d1 d2 d3] 25)
 obtain⟨y0,y1,y2⟩:=cells3 hb
 have e0:=fun u:Ext (w.alloc (.cells #[.int .i64 (k:Int),.slice (some ⟨g,o,none⟩) b2 b3,.int .i64 so,.int .i64 nn,.int .i64 mm,.slice d1 d2 d3] 25))=>u.cell y0
 have e1:=fun u:Ext (w.alloc (.cells #[.int .i64 (k:Int),.slice (some ⟨g,o,none⟩) b2 b3,.int .i64 so,.int .i64 nn,.int .i64 mm,.slice d1 d2 d3] 25))=>u.cell y1
 have e2:=fun u:Ext (w.alloc (.cells #[.int .i64 (k:Int),.slice (some ⟨g,o,none⟩) b2 b3,.int .i64 so,.int .i64 nn,.int .i64 mm,.slice d1 d2 d3] 25))=>u.cell y2
 have ex:=fun u:Ext (w.alloc (.cells #[.int .i64 (k:Int),.slice (some ⟨g,o,none⟩) b2 b3,.int .i64 so,.int .i64 nn,.int .i64 mm,.slice d1 d2 d3] 25))=>u.cell c1
 generalize quW (k:Int)=W at *
 generalize kOj so=S at *
 have s0:(ByteArray.mk x.toArray).size=x.length:=rfl
 have sm0:W.length+1≤9223372036854775807:=by omega
 have sm1:W.length+1+S.length≤9223372036854775807:=by omega
 have sm2:W.length+1+S.length+1≤9223372036854775807:=by omega
 have sm3:W.length+1+S.length+1+x.length≤9223372036854775807:=by omega
 have sm4:W.length+1+S.length+1+x.length+2≤9223372036854775807:=by omega
 clear hu1 hb hb2 h16 h18 hlx hwl hsl
 go_enter Tryz.func113,Tryz.ntmps113
 go_wp2_with fail
 clear y0 y1 y2 c1
 refine kFx [2,6] [] [0,1,2,3,4,5,6,7,8,9,10,11,12,13,14,15] (by kernel_rfl) (by kernel_rfl) ?_
 iterate 2 (refine kCq rfl rfl rfl rfl rfl ?_;intro K' hK';go_big_quiet_op;go_big_quiet_on)
 refine kMw rfl rfl rfl rfl (fun w=>by go_simp) (fun w' hu hd=>HWD.out w') ?_
 simp only [Act.put,List.setIfInBounds_toArray,List.set_cons_zero,List.set_cons_succ]
 iterate 3 (refine kCq rfl rfl rfl rfl rfl ?_;intro K' hK';go_big_quiet_op;go_big_quiet_on)
 refine kMw rfl rfl rfl rfl (fun w=>by go_simp) (fun w' hu hd=>HSO.out w') ?_
 simp only [Act.put,List.setIfInBounds_toArray,List.set_cons_zero,List.set_cons_succ]
 iterate 9 (refine kCq rfl rfl rfl rfl rfl ?_;intro K' hK';go_big_quiet_op;go_big_quiet_on)
 intro w9 hg
 have HW9:=Lib.hid (HU.out.trans_ext hg.up)
 clear hg e0 e1 e2 ex
 go_wp2_with fail
 go_ret
 exact⟨congrArg (fun z=>Ending.returned (.string z)) (show ByteArray.mk W.toArray++ByteArray.mk [32].toArray++ByteArray.mk S.toArray++ByteArray.mk [32].toArray++ByteArray.mk x.toArray++ByteArray.mk [32,58].toArray=⟨(W++[32]++S++[32]++x++[32,58]).toArray⟩ by simp only [ByteArray.mk_append_mk]),HW9.out⟩
theorem oper_need (op:Int) (place:Nat) (_x:Nd) (xo:Int) (xn1:Option Addr) (xn2 xn3:Nat) (xs xm xq:Int) (xl1:Option Addr) (xl2 xl3:Nat) (u:World) (F:Bool→List UInt8) (hl:(F true).length≤1000000000000) (last:Bool) (hn:∀w,Calls Tryz.prog 137 #[.int .i64 op,.int .i64 (place:Int),.agg #[.int .i64 xo,.slice xn1 xn2 xn3,.int .i64 xs,.int .i64 xm,.int .i64 xq,.slice xl1 xl2 xl3]] w fun e w'=>e=.returned (.bool true)∧Upto [] w w') (ht:∀last w,Upto [] u w→Calls Tryz.prog 73 #[.agg #[.int .i64 xo,.slice xn1 xn2 xn3,.int .i64 xs,.int .i64 xm,.int .i64 xq,.slice xl1 xl2 xl3],.bool last] w fun e w'=>e=.returned (.string ⟨(F last).toArray⟩)∧Upto [] w w'):Calls Tryz.prog 112 #[.int .i64 op,.int .i64 (place:Int),.agg #[.int .i64 xo,.slice xn1 xn2 xn3,.int .i64 xs,.int .i64 xm,.int .i64 xq,.slice xl1 xl2 xl3],.bool last] u fun e w'=>e=.returned (.string ⟨([40,32]++F true++[32,41]).toArray⟩)∧Upto [] u w':=by
 have HU:Hid (Upto [] u (u.alloc (.cells #[.int .i64 xo,.slice xn1 xn2 xn3,.int .i64 xs,.int .i64 xm,.int .i64 xq,.slice xl1 xl2 xl3] 25))):=Lib.hid ((Upto.refl [] u).alloc _)
 have HB:=Lib.hid (kAq u (.cells #[.int .i64 xo,.slice xn1 xn2 xn3,.int .i64 xs,.int .i64 xm,.int .i64 xq,.slice xl1 xl2 xl3] 25))
 have HN:=Lib.hid hn
 have HT:=Lib.hid ht
 have sm0:2+(F true).length≤9223372036854775807:=by omega
 have sm1:2+(F true).length+2≤9223372036854775807:=by omega
 clear hn ht hl
 generalize hF:F true=T at *
 go_enter Tryz.func112,Tryz.ntmps112
 go_wp2_with fail
 refine (HN.out _).mono ?_
 rintro e w2 ⟨rfl,hu2⟩
 have HU2:=Lib.hid (HU.out.trans_ext hu2)
 have hb2:=hu2.at HB.out (by simp)
 obtain⟨z0,z1,z2,z3,z4,z5⟩:=kAx hb2
 clear hu2 hb2
 go_wp2_with fail
 refine (HT.out true _ HU2.out).mono ?_
 rw [hF]
 rintro e w3 ⟨rfl,hu3⟩
 have HU3:=Lib.hid (HU2.out.trans_ext hu3)
 clear hu3
 go_wp2_with fail
 go_ret
 exact⟨congrArg (fun z=>Ending.returned (.string z)) (show ByteArray.mk [40,32].toArray++ByteArray.mk T.toArray++ByteArray.mk [32,41].toArray=⟨([40,32]++T++[32,41]).toArray⟩ by simp only [ByteArray.mk_append_mk]),HU3.out⟩
theorem oper_qu (op:Int) (place:Nat) (_x:Nd) (xo:Int) (xn1:Option Addr) (xn2 xn3:Nat) (xs xm xq:Int) (xl1:Option Addr) (xl2 xl3:Nat) (u:World) (F:Bool→List UInt8) (hl:(F true).length≤1000000000000) (h:15<xo) (hn:∀w,Calls Tryz.prog 137 #[.int .i64 op,.int .i64 (place:Int),.agg #[.int .i64 xo,.slice xn1 xn2 xn3,.int .i64 xs,.int .i64 xm,.int .i64 xq,.slice xl1 xl2 xl3]] w fun e w'=>e=.returned (.bool false)∧Upto [] w w') (ht:∀last w,Upto [] u w→Calls Tryz.prog 73 #[.agg #[.int .i64 xo,.slice xn1 xn2 xn3,.int .i64 xs,.int .i64 xm,.int .i64 xq,.slice xl1 xl2 xl3],.bool last] w fun e w'=>e=.returned (.string ⟨(F last).toArray⟩)∧Upto [] w w'):Calls Tryz.prog 112 #[.int .i64 op,.int .i64 (place:Int),.agg #[.int .i64 xo,.slice xn1 xn2 xn3,.int .i64 xs,.int .i64 xm,.int .i64 xq,.slice xl1 xl2 xl3],.bool false] u fun e w'=>e=.returned (.string ⟨([40,32]++F true++[32,41]).toArray⟩)∧Upto [] u w':=by
 have HU:Hid (Upto [] u (u.alloc (.cells #[.int .i64 xo,.slice xn1 xn2 xn3,.int .i64 xs,.int .i64 xm,.int .i64 xq,.slice xl1 xl2 xl3] 25))):=Lib.hid ((Upto.refl [] u).alloc _)
 have HB:=Lib.hid (kAq u (.cells #[.int .i64 xo,.slice xn1 xn2 xn3,.int .i64 xs,.int .i64 xm,.int .i64 xq,.slice xl1 xl2 xl3] 25))
 have HN:=Lib.hid hn
 have HT:=Lib.hid ht
 have sm0:2+(F true).length≤9223372036854775807:=by omega
 have sm1:2+(F true).length+2≤9223372036854775807:=by omega
 clear hn ht hl
 generalize hF:F true=T at *
 go_enter Tryz.func112,Tryz.ntmps112
 go_wp2_with fail
 refine (HN.out _).mono ?_
 rintro e w2 ⟨rfl,hu2⟩
 have HU2:=Lib.hid (HU.out.trans_ext hu2)
 have hb2:=hu2.at HB.out (by simp)
 obtain⟨z0,z1,z2,z3,z4,z5⟩:=kAx hb2
 clear hu2 hb2
 go_wp2_with fail
 refine (HT.out true _ HU2.out).mono ?_
 rw [hF]
 rintro e w3 ⟨rfl,hu3⟩
 have HU3:=Lib.hid (HU2.out.trans_ext hu3)
 clear hu3
 go_wp2_with fail
 go_ret
 exact⟨congrArg (fun z=>Ending.returned (.string z)) (show ByteArray.mk [40,32].toArray++ByteArray.mk T.toArray++ByteArray.mk [32,41].toArray=⟨([40,32]++T++[32,41]).toArray⟩ by simp only [ByteArray.mk_append_mk]),HU3.out⟩
theorem oper_qu_last (op:Int) (place:Nat) (_x:Nd) (xo:Int) (xn1:Option Addr) (xn2 xn3:Nat) (xs xm xq:Int) (xl1:Option Addr) (xl2 xl3:Nat) (u:World) (F:Bool→List UInt8) (_hl:(F true).length≤1000000000000) (h:15<xo) (hn:∀w,Calls Tryz.prog 137 #[.int .i64 op,.int .i64 (place:Int),.agg #[.int .i64 xo,.slice xn1 xn2 xn3,.int .i64 xs,.int .i64 xm,.int .i64 xq,.slice xl1 xl2 xl3]] w fun e w'=>e=.returned (.bool false)∧Upto [] w w') (ht:∀last w,Upto [] u w→Calls Tryz.prog 73 #[.agg #[.int .i64 xo,.slice xn1 xn2 xn3,.int .i64 xs,.int .i64 xm,.int .i64 xq,.slice xl1 xl2 xl3],.bool last] w fun e w'=>e=.returned (.string ⟨(F last).toArray⟩)∧Upto [] w w'):Calls Tryz.prog 112 #[.int .i64 op,.int .i64 (place:Int),.agg #[.int .i64 xo,.slice xn1 xn2 xn3,.int .i64 xs,.int .i64 xm,.int .i64 xq,.slice xl1 xl2 xl3],.bool true] u fun e w'=>e=.returned (.string ⟨(F true).toArray⟩)∧Upto [] u w':=by
 have HU:Hid (Upto [] u (u.alloc (.cells #[.int .i64 xo,.slice xn1 xn2 xn3,.int .i64 xs,.int .i64 xm,.int .i64 xq,.slice xl1 xl2 xl3] 25))):=Lib.hid ((Upto.refl [] u).alloc _)
 have HB:=Lib.hid (kAq u (.cells #[.int .i64 xo,.slice xn1 xn2 xn3,.int .i64 xs,.int .i64 xm,.int .i64 xq,.slice xl1 xl2 xl3] 25))
 have HN:=Lib.hid hn
 have HT:=Lib.hid ht
 clear hn ht _hl
 go_enter Tryz.func112,Tryz.ntmps112
 go_wp2_with fail
 refine (HN.out _).mono ?_
 rintro e w2 ⟨rfl,hu2⟩
 have HU2:=Lib.hid (HU.out.trans_ext hu2)
 have hb2:=hu2.at HB.out (by simp)
 obtain⟨z0,z1,z2,z3,z4,z5⟩:=kAx hb2
 clear hu2 hb2
 go_wp2_with fail
 refine (HT.out true _ HU2.out).mono ?_
 rintro e w3 ⟨rfl,hu3⟩
 have HU3:=Lib.hid (HU2.out.trans_ext hu3)
 clear hu3
 go_wp2_with fail
 go_ret
 exact⟨rfl,HU3.out⟩
theorem oper_low (op:Int) (place:Nat) (_x:Nd) (xo:Int) (xn1:Option Addr) (xn2 xn3:Nat) (xs xm xq:Int) (xl1:Option Addr) (xl2 xl3:Nat) (u:World) (F:Bool→List UInt8) (_hl:(F true).length≤1000000000000) (last:Bool) (h:¬15<xo) (hn:∀w,Calls Tryz.prog 137 #[.int .i64 op,.int .i64 (place:Int),.agg #[.int .i64 xo,.slice xn1 xn2 xn3,.int .i64 xs,.int .i64 xm,.int .i64 xq,.slice xl1 xl2 xl3]] w fun e w'=>e=.returned (.bool false)∧Upto [] w w') (ht:∀last w,Upto [] u w→Calls Tryz.prog 73 #[.agg #[.int .i64 xo,.slice xn1 xn2 xn3,.int .i64 xs,.int .i64 xm,.int .i64 xq,.slice xl1 xl2 xl3],.bool last] w fun e w'=>e=.returned (.string ⟨(F last).toArray⟩)∧Upto [] w w'):Calls Tryz.prog 112 #[.int .i64 op,.int .i64 (place:Int),.agg #[.int .i64 xo,.slice xn1 xn2 xn3,.int .i64 xs,.int .i64 xm,.int .i64 xq,.slice xl1 xl2 xl3],.bool last] u fun e w'=>e=.returned (.string ⟨(F last).toArray⟩)∧Upto [] u w':=by
 have HU:Hid (Upto [] u (u.alloc (.cells #[.int .i64 xo,.slice xn1 xn2 xn3,.int .i64 xs,.int .i64 xm,.int .i64 xq,.slice xl1 xl2 xl3] 25))):=Lib.hid ((Upto.refl [] u).alloc _)
 have HB:=Lib.hid (kAq u (.cells #[.int .i64 xo,.slice xn1 xn2 xn3,.int .i64 xs,.int .i64 xm,.int .i64 xq,.slice xl1 xl2 xl3] 25))
 have HN:=Lib.hid hn
 have HT:=Lib.hid ht
 clear hn ht _hl
 go_enter Tryz.func112,Tryz.ntmps112
 go_wp2_with fail
 refine (HN.out _).mono ?_
 rintro e w2 ⟨rfl,hu2⟩
 have HU2:=Lib.hid (HU.out.trans_ext hu2)
 have hb2:=hu2.at HB.out (by simp)
 obtain⟨z0,z1,z2,z3,z4,z5⟩:=kAx hb2
 clear hu2 hb2
 go_wp2_with fail
 refine (HT.out last _ HU2.out).mono ?_
 rintro e w3 ⟨rfl,hu3⟩
 have HU3:=Lib.hid (HU2.out.trans_ext hu3)
 clear hu3
 go_wp2_with fail
 go_ret
 exact⟨rfl,HU3.out⟩
theorem oper_calls (op:Int) (h1:11≤op) (h2:op≤15) (place:Nat) (hp:place<2) (x:Nd) (xo:Int) (xn1:Option Addr) (xn2 xn3:Nat) (xs xm xq:Int) (xl1:Option Addr) (xl2 xl3:Nat) (hx:opF x=xo) (last:Bool) (u:World) (hl:(jn (prT true x)).length≤1000000000000) (ht:RtP u x (.agg #[.int .i64 xo,.slice xn1 xn2 xn3,.int .i64 xs,.int .i64 xm,.int .i64 xq,.slice xl1 xl2 xl3])):Calls Tryz.prog 112 #[.int .i64 op,.int .i64 (place:Int),.agg #[.int .i64 xo,.slice xn1 xn2 xn3,.int .i64 xs,.int .i64 xm,.int .i64 xq,.slice xl1 xl2 xl3],.bool last] u fun e w'=>e=.returned (.string ⟨(opJ op place x last).toArray⟩)∧Upto [] u w':=by
 have hn:=fun w=>needed_calls op h1 h2 place hp xo xs xm xq xn1 xn2 xn3 xl1 xl2 xl3 w
 rw [opJ_eq,hx]
 unfold parB
 cases hb:kMz op place xo with
 | true =>
  rw [hb] at hn
  simp only [Bool.true_or,if_true]
  exact oper_need op place x xo xn1 xn2 xn3 xs xm xq xl1 xl2 xl3 u (fun l=>jn (prT l x)) hl last hn ht
 | false =>
  rw [hb] at hn
  by_cases h15:15<xo
  ·cases last with
   | false =>
    rw [if_pos (by simpa using h15)]
    exact oper_qu op place x xo xn1 xn2 xn3 xs xm xq xl1 xl2 xl3 u (fun l=>jn (prT l x)) hl h15 hn ht
   | true =>
    rw [if_neg (by simp)]
    exact oper_qu_last op place x xo xn1 xn2 xn3 xs xm xq xl1 xl2 xl3 u (fun l=>jn (prT l x)) hl h15 hn ht
  ·rw [if_neg (by simp;omega)]
   exact oper_low op place x xo xn1 xn2 xn3 xs xm xq xl1 xl2 xl3 u (fun l=>jn (prT l x)) hl last h15 hn ht
theorem rtext_atom (op so nn mm:Int) (a1:Option Addr) (b2 b3:Nat) (a2:Option Addr) (d2 d3:Nat) (T:List UInt8) (last:Bool) (u:World) (h11:op<11) (ha:∀w,Upto [] u w→Calls Tryz.prog 111 #[.agg #[.int .i64 op,.slice a1 b2 b3,.int .i64 so,.int .i64 nn,.int .i64 mm,.slice a2 d2 d3]] w fun e w'=>e=.returned (.string ⟨T.toArray⟩)∧Upto [] w w'):Calls Tryz.prog 73 #[.agg #[.int .i64 op,.slice a1 b2 b3,.int .i64 so,.int .i64 nn,.int .i64 mm,.slice a2 d2 d3],.bool last] u fun e w'=>e=.returned (.string ⟨T.toArray⟩)∧Upto [] u w':=by
 have hu1:Upto [] u (u.alloc (.cells #[.int .i64 op,.slice a1 b2 b3,.int .i64 so,.int .i64 nn,.int .i64 mm,.slice a2 d2 d3] 25)):=(Upto.refl [] u).alloc _
 have HU:=Lib.hid hu1
 have hb:=kAq u (.cells #[.int .i64 op,.slice a1 b2 b3,.int .i64 so,.int .i64 nn,.int .i64 mm,.slice a2 d2 d3] 25)
 obtain⟨y0,y1,y2,y3,y4,y5⟩:=kAx hb
 have HA:=Lib.hid ha
 clear ha hu1 hb
 go_enter Tryz.func73,Tryz.ntmps73
 go_wp2_with fail
 refine (HA.out _ HU.out).mono ?_
 rintro e w2 ⟨rfl,hu2⟩
 have HU2:=Lib.hid (HU.out.trans_ext hu2)
 clear hu2
 go_wp2_with fail
 go_ret
 exact⟨rfl,HU2.out⟩
theorem rtext_not (so nn mm:Int) (a1:Option Addr) (b2 b3:Nat) (g o d3:Nat) (xo:Int) (xn1:Option Addr) (xn2 xn3:Nat) (xs xm xq:Int) (xl1:Option Addr) (xl2 xl3:Nat) (T:List UInt8) (hl:T.length≤1000000000000) (last:Bool) (u:World) (hx0:u.cell? ⟨g,o,none⟩=some (.int .i64 xo)) (hx1:u.cell? ⟨g,o+1,none⟩=some (.slice xn1 xn2 xn3)) (hx2:u.cell? ⟨g,o+2,none⟩=some (.int .i64 xs)) (hx3:u.cell? ⟨g,o+3,none⟩=some (.int .i64 xm)) (hx4:u.cell? ⟨g,o+4,none⟩=some (.int .i64 xq)) (hx5:u.cell? ⟨g,o+5,none⟩=some (.slice xl1 xl2 xl3))
  (ha:∀w,Upto [] u w→Calls Tryz.prog 112 #[.int .i64 11,.int .i64 0,.agg #[.int .i64 xo,.slice xn1 xn2 xn3,.int .i64 xs,.int .i64 xm,.int .i64 xq,.slice xl1 xl2 xl3],.bool last] w fun e w'=>e=.returned (.string ⟨T.toArray⟩)∧Upto [] w w'):Calls Tryz.prog 73 #[.agg #[.int .i64 11,.slice a1 b2 b3,.int .i64 so,.int .i64 nn,.int .i64 mm,.slice (some ⟨g,o,none⟩) 1 d3],.bool last] u fun e w'=>e=.returned (.string ⟨([110,111,116,32]++T).toArray⟩)∧Upto [] u w':=by
 have hu1:Upto [] u (u.alloc (.cells #[.int .i64 11,.slice a1 b2 b3,.int .i64 so,.int .i64 nn,.int .i64 mm,.slice (some ⟨g,o,none⟩) 1 d3] 25)):=(Upto.refl [] u).alloc _
 have HU:=Lib.hid hu1
 have hb:=kAq u (.cells #[.int .i64 11,.slice a1 b2 b3,.int .i64 so,.int .i64 nn,.int .i64 mm,.slice (some ⟨g,o,none⟩) 1 d3] 25)
 obtain⟨y0,y1,y2,y3,y4,y5⟩:=kAx hb
 replace hx0:=kAw hu1 hx0
 replace hx1:=kAw hu1 hx1
 replace hx2:=kAw hu1 hx2
 replace hx3:=kAw hu1 hx3
 replace hx4:=kAw hu1 hx4
 replace hx5:=kAw hu1 hx5
 have HA:=Lib.hid ha
 have sm0:4+T.length≤9223372036854775807:=by omega
 clear ha hu1 hb hl
 go_enter Tryz.func73,Tryz.ntmps73
 go_wp2_with fail
 refine (HA.out _ HU.out).mono ?_
 rintro e w2 ⟨rfl,hu2⟩
 have HU2:=Lib.hid (HU.out.trans_ext hu2)
 clear hu2
 go_wp2_with fail
 go_ret
 exact⟨congrArg (fun z=>Ending.returned (.string z)) (show ByteArray.mk [110,111,116,32].toArray++ByteArray.mk T.toArray=⟨([110,111,116,32]++T).toArray⟩ by simp only [ByteArray.mk_append_mk]),HU2.out⟩
theorem rtext_qu (op so nn mm:Int) (a1:Option Addr) (b2 b3:Nat) (g o d3:Nat) (xo:Int) (xn1:Option Addr) (xn2 xn3:Nat) (xs xm xq:Int) (xl1:Option Addr) (xl2 xl3:Nat) (B T:List UInt8) (hlb:B.length≤1000000000000) (hl:T.length≤1000000000000) (last:Bool) (u:World) (h16:16≤op) (hx0:u.cell? ⟨g,o,none⟩=some (.int .i64 xo)) (hx1:u.cell? ⟨g,o+1,none⟩=some (.slice xn1 xn2 xn3)) (hx2:u.cell? ⟨g,o+2,none⟩=some (.int .i64 xs)) (hx3:u.cell? ⟨g,o+3,none⟩=some (.int .i64 xm)) (hx4:u.cell? ⟨g,o+4,none⟩=some (.int .i64 xq)) (hx5:u.cell? ⟨g,o+5,none⟩=some (.slice xl1 xl2 xl3))
  (hbd:∀w,Upto [] u w→Calls Tryz.prog 113 #[.agg #[.int .i64 op,.slice a1 b2 b3,.int .i64 so,.int .i64 nn,.int .i64 mm,.slice (some ⟨g,o,none⟩) 1 d3]] w fun e w'=>e=.returned (.string ⟨B.toArray⟩)∧Upto [] w w')
  (ha:∀w,Upto [] u w→Calls Tryz.prog 73 #[.agg #[.int .i64 xo,.slice xn1 xn2 xn3,.int .i64 xs,.int .i64 xm,.int .i64 xq,.slice xl1 xl2 xl3],.bool true] w fun e w'=>e=.returned (.string ⟨T.toArray⟩)∧Upto [] w w'):Calls Tryz.prog 73 #[.agg #[.int .i64 op,.slice a1 b2 b3,.int .i64 so,.int .i64 nn,.int .i64 mm,.slice (some ⟨g,o,none⟩) 1 d3],.bool last] u fun e w'=>e=.returned (.string ⟨(B++[32]++T).toArray⟩)∧Upto [] u w':=by
 have hu1:Upto [] u (u.alloc (.cells #[.int .i64 op,.slice a1 b2 b3,.int .i64 so,.int .i64 nn,.int .i64 mm,.slice (some ⟨g,o,none⟩) 1 d3] 25)):=(Upto.refl [] u).alloc _
 have HU:=Lib.hid hu1
 have hb:=kAq u (.cells #[.int .i64 op,.slice a1 b2 b3,.int .i64 so,.int .i64 nn,.int .i64 mm,.slice (some ⟨g,o,none⟩) 1 d3] 25)
 obtain⟨y0,y1,y2,y3,y4,y5⟩:=kAx hb
 replace hx0:=kAw hu1 hx0
 replace hx1:=kAw hu1 hx1
 replace hx2:=kAw hu1 hx2
 replace hx3:=kAw hu1 hx3
 replace hx4:=kAw hu1 hx4
 replace hx5:=kAw hu1 hx5
 have HA:=Lib.hid ha
 have HBD:=Lib.hid hbd
 have q1:¬op<11:=by omega
 have q2:(op==11)=false:=by rw [beq_eq_false_iff_ne];omega
 have q3:15<op:=by omega
 have sm0:B.length+1≤9223372036854775807:=by omega
 have sm1:B.length+1+T.length≤9223372036854775807:=by omega
 clear ha hbd hu1 hb hl hlb h16
 go_enter Tryz.func73,Tryz.ntmps73
 go_wp2_with fail
 have ey0:=fun z:Ext (u.alloc (.cells #[.int .i64 op,.slice a1 b2 b3,.int .i64 so,.int .i64 nn,.int .i64 mm,.slice (some ⟨g,o,none⟩) 1 d3] 25))=>z.cell y0
 have ey1:=fun z:Ext (u.alloc (.cells #[.int .i64 op,.slice a1 b2 b3,.int .i64 so,.int .i64 nn,.int .i64 mm,.slice (some ⟨g,o,none⟩) 1 d3] 25))=>z.cell y1
 have ey2:=fun z:Ext (u.alloc (.cells #[.int .i64 op,.slice a1 b2 b3,.int .i64 so,.int .i64 nn,.int .i64 mm,.slice (some ⟨g,o,none⟩) 1 d3] 25))=>z.cell y2
 have ey3:=fun z:Ext (u.alloc (.cells #[.int .i64 op,.slice a1 b2 b3,.int .i64 so,.int .i64 nn,.int .i64 mm,.slice (some ⟨g,o,none⟩) 1 d3] 25))=>z.cell y3
 have ey4:=fun z:Ext (u.alloc (.cells #[.int .i64 op,.slice a1 b2 b3,.int .i64 so,.int .i64 nn,.int .i64 mm,.slice (some ⟨g,o,none⟩) 1 d3] 25))=>z.cell y4
 have ey5:=fun z:Ext (u.alloc (.cells #[.int .i64 op,.slice a1 b2 b3,.int .i64 so,.int .i64 nn,.int .i64 mm,.slice (some ⟨g,o,none⟩) 1 d3] 25))=>z.cell y5
 have ex0:=fun z:Ext (u.alloc (.cells #[.int .i64 op,.slice a1 b2 b3,.int .i64 so,.int .i64 nn,.int .i64 mm,.slice (some ⟨g,o,none⟩) 1 d3] 25))=>z.cell hx0
 have ex1:=fun z:Ext (u.alloc (.cells #[.int .i64 op,.slice a1 b2 b3,.int .i64 so,.int .i64 nn,.int .i64 mm,.slice (some ⟨g,o,none⟩) 1 d3] 25))=>z.cell hx1
 have ex2:=fun z:Ext (u.alloc (.cells #[.int .i64 op,.slice a1 b2 b3,.int .i64 so,.int .i64 nn,.int .i64 mm,.slice (some ⟨g,o,none⟩) 1 d3] 25))=>z.cell hx2
 have ex3:=fun z:Ext (u.alloc (.cells #[.int .i64 op,.slice a1 b2 b3,.int .i64 so,.int .i64 nn,.int .i64 mm,.slice (some ⟨g,o,none⟩) 1 d3] 25))=>z.cell hx3
 have ex4:=fun z:Ext (u.alloc (.cells #[.int .i64 op,.slice a1 b2 b3,.int .i64 so,.int .i64 nn,.int .i64 mm,.slice (some ⟨g,o,none⟩) 1 d3] 25))=>z.cell hx4
 have ex5:=fun z:Ext (u.alloc (.cells #[.int .i64 op,.slice a1 b2 b3,.int .i64 so,.int .i64 nn,.int .i64 mm,.slice (some ⟨g,o,none⟩) 1 d3] 25))=>z.cell hx5
 clear y0 y1 y2 y3 y4 y5 hx0 hx1 hx2 hx3 hx4 hx5
 refine kFx [1,7] [] [0,1,2,3,4,5,6,7,8,9] (by kernel_rfl) (by kernel_rfl) ?_
 (refine kCq rfl rfl rfl rfl rfl ?_;intro K' hK';go_big_quiet_op;go_big_quiet_on)
 refine kMw rfl rfl rfl rfl (fun w=>by go_simp) (fun w' hu hd=>HBD.out w' (HU.out.trans_ext hu)) ?_
 simp only [Act.put,List.setIfInBounds_toArray,List.set_cons_zero,List.set_cons_succ]
 iterate 5 (refine kCq rfl rfl rfl rfl rfl ?_;intro K' hK';go_big_quiet_op;go_big_quiet_on)
 refine kMw rfl rfl rfl rfl (fun w=>by go_simp) (fun w' hu hd=>HA.out w' (HU.out.trans_ext hu)) ?_
 simp only [Act.put,List.setIfInBounds_toArray,List.set_cons_zero,List.set_cons_succ]
 iterate 2 (refine kCq rfl rfl rfl rfl rfl ?_;intro K' hK';go_big_quiet_op;go_big_quiet_on)
 intro w9 hg
 have HW9:=Lib.hid (HU.out.trans_ext hg.up)
 clear hg ey0 ey1 ey2 ey3 ey4 ey5 ex0 ex1 ex2 ex3 ex4 ex5
 go_wp2_with fail
 go_ret
 exact⟨congrArg (fun z=>Ending.returned (.string z)) (show ByteArray.mk B.toArray++ByteArray.mk [32].toArray++ByteArray.mk T.toArray=⟨(B++[32]++T).toArray⟩ by simp only [ByteArray.mk_append_mk]),HW9.out⟩
theorem rtext_two (k:Nat) (so nn mm:Int) (a1:Option Addr) (b2 b3:Nat) (g o d3:Nat) (xo:Int) (xn1:Option Addr) (xn2 xn3:Nat) (xs xm xq:Int) (xl1:Option Addr) (xl2 xl3:Nat) (yo:Int) (yn1:Option Addr) (yn2 yn3:Nat) (ys ym yq:Int) (yl1:Option Addr) (yl2 yl3:Nat) (A B:List UInt8) (hla:A.length≤1000000000000) (hlb:B.length≤1000000000000) (last:Bool) (u:World) (h12:12≤k) (h16:k<16) (hx0:u.cell? ⟨g,o,none⟩=some (.int .i64 xo)) (hx1:u.cell? ⟨g,o+1,none⟩=some (.slice xn1 xn2 xn3)) (hx2:u.cell? ⟨g,o+2,none⟩=some (.int .i64 xs)) (hx3:u.cell? ⟨g,o+3,none⟩=some (.int .i64 xm)) (hx4:u.cell? ⟨g,o+4,none⟩=some (.int .i64 xq)) (hx5:u.cell? ⟨g,o+5,none⟩=some (.slice xl1 xl2 xl3))
  (hy0:u.cell? ⟨g,o+6,none⟩=some (.int .i64 yo)) (hy1:u.cell? ⟨g,o+6+1,none⟩=some (.slice yn1 yn2 yn3)) (hy2:u.cell? ⟨g,o+6+2,none⟩=some (.int .i64 ys)) (hy3:u.cell? ⟨g,o+6+3,none⟩=some (.int .i64 ym)) (hy4:u.cell? ⟨g,o+6+4,none⟩=some (.int .i64 yq)) (hy5:u.cell? ⟨g,o+6+5,none⟩=some (.slice yl1 yl2 yl3))
  (ha:∀w,Upto [] u w→Calls Tryz.prog 112 #[.int .i64 (k:Int),.int .i64 0,.agg #[.int .i64 xo,.slice xn1 xn2 xn3,.int .i64 xs,.int .i64 xm,.int .i64 xq,.slice xl1 xl2 xl3],.bool false] w fun e w'=>e=.returned (.string ⟨A.toArray⟩)∧Upto [] w w')
  (hb':∀w,Upto [] u w→Calls Tryz.prog 112 #[.int .i64 (k:Int),.int .i64 1,.agg #[.int .i64 yo,.slice yn1 yn2 yn3,.int .i64 ys,.int .i64 ym,.int .i64 yq,.slice yl1 yl2 yl3],.bool last] w fun e w'=>e=.returned (.string ⟨B.toArray⟩)∧Upto [] w w'):Calls Tryz.prog 73 #[.agg #[.int .i64 (k:Int),.slice a1 b2 b3,.int .i64 so,.int .i64 nn,.int .i64 mm,.slice (some ⟨g,o,none⟩) 2 d3],.bool last] u fun e w'=>e=.returned (.string ⟨(A++[32]++conW (k:Int)++[32]++B).toArray⟩)∧Upto [] u w':=by
 have hu1:Upto [] u (u.alloc (.cells #[.int .i64 (k:Int),.slice a1 b2 b3,.int .i64 so,.int .i64 nn,.int .i64 mm,.slice (some ⟨g,o,none⟩) 2 d3] 25)):=(Upto.refl [] u).alloc _
 have HU:=Lib.hid hu1
 have hb:=kAq u (.cells #[.int .i64 (k:Int),.slice a1 b2 b3,.int .i64 so,.int .i64 nn,.int .i64 mm,.slice (some ⟨g,o,none⟩) 2 d3] 25)
 obtain⟨y0,y1,y2,y3,y4,y5⟩:=kAx hb
 replace hx0:=kAw hu1 hx0
 replace hx1:=kAw hu1 hx1
 replace hx2:=kAw hu1 hx2
 replace hx3:=kAw hu1 hx3
 replace hx4:=kAw hu1 hx4
 replace hx5:=kAw hu1 hx5
 replace hy0:=kAw hu1 hy0
 replace hy1:=kAw hu1 hy1
 replace hy2:=kAw hu1 hy2
 replace hy3:=kAw hu1 hy3
 replace hy4:=kAw hu1 hy4
 replace hy5:=kAw hu1 hy5
 have HA:=Lib.hid ha
 have HB:=Lib.hid hb'
 have HWD:=Lib.hid (fun z=>word_calls k (by omega) z)
 rw [refW_word (by omega) (by omega),←conW_word ⟨h12,h16⟩] at HWD
 have hwl:=wordsF_len k
 rw [←conW_word ⟨h12,h16⟩] at hwl
 generalize conW (k:Int)=W at *
 have q1:¬(k:Int)<11:=by omega
 have q2:((k:Int)==11)=false:=by rw [beq_eq_false_iff_ne];omega
 have q3:¬15<(k:Int):=by omega
 have sm0:A.length+1≤9223372036854775807:=by omega
 have sm1:A.length+1+W.length≤9223372036854775807:=by omega
 have sm2:A.length+1+W.length+1≤9223372036854775807:=by omega
 have sm3:A.length+1+W.length+1+B.length≤9223372036854775807:=by omega
 clear ha hb' hu1 hb hla hlb h12 h16 hwl
 go_enter Tryz.func73,Tryz.ntmps73
 go_wp2_with fail
 have ey0:=fun z:Ext (u.alloc (.cells #[.int .i64 (k:Int),.slice a1 b2 b3,.int .i64 so,.int .i64 nn,.int .i64 mm,.slice (some ⟨g,o,none⟩) 2 d3] 25))=>z.cell y0
 have ey1:=fun z:Ext (u.alloc (.cells #[.int .i64 (k:Int),.slice a1 b2 b3,.int .i64 so,.int .i64 nn,.int .i64 mm,.slice (some ⟨g,o,none⟩) 2 d3] 25))=>z.cell y1
 have ey2:=fun z:Ext (u.alloc (.cells #[.int .i64 (k:Int),.slice a1 b2 b3,.int .i64 so,.int .i64 nn,.int .i64 mm,.slice (some ⟨g,o,none⟩) 2 d3] 25))=>z.cell y2
 have ey3:=fun z:Ext (u.alloc (.cells #[.int .i64 (k:Int),.slice a1 b2 b3,.int .i64 so,.int .i64 nn,.int .i64 mm,.slice (some ⟨g,o,none⟩) 2 d3] 25))=>z.cell y3
 have ey4:=fun z:Ext (u.alloc (.cells #[.int .i64 (k:Int),.slice a1 b2 b3,.int .i64 so,.int .i64 nn,.int .i64 mm,.slice (some ⟨g,o,none⟩) 2 d3] 25))=>z.cell y4
 have ey5:=fun z:Ext (u.alloc (.cells #[.int .i64 (k:Int),.slice a1 b2 b3,.int .i64 so,.int .i64 nn,.int .i64 mm,.slice (some ⟨g,o,none⟩) 2 d3] 25))=>z.cell y5
 have ex0:=fun z:Ext (u.alloc (.cells #[.int .i64 (k:Int),.slice a1 b2 b3,.int .i64 so,.int .i64 nn,.int .i64 mm,.slice (some ⟨g,o,none⟩) 2 d3] 25))=>z.cell hx0
 have ex1:=fun z:Ext (u.alloc (.cells #[.int .i64 (k:Int),.slice a1 b2 b3,.int .i64 so,.int .i64 nn,.int .i64 mm,.slice (some ⟨g,o,none⟩) 2 d3] 25))=>z.cell hx1
 have ex2:=fun z:Ext (u.alloc (.cells #[.int .i64 (k:Int),.slice a1 b2 b3,.int .i64 so,.int .i64 nn,.int .i64 mm,.slice (some ⟨g,o,none⟩) 2 d3] 25))=>z.cell hx2
 have ex3:=fun z:Ext (u.alloc (.cells #[.int .i64 (k:Int),.slice a1 b2 b3,.int .i64 so,.int .i64 nn,.int .i64 mm,.slice (some ⟨g,o,none⟩) 2 d3] 25))=>z.cell hx3
 have ex4:=fun z:Ext (u.alloc (.cells #[.int .i64 (k:Int),.slice a1 b2 b3,.int .i64 so,.int .i64 nn,.int .i64 mm,.slice (some ⟨g,o,none⟩) 2 d3] 25))=>z.cell hx4
 have ex5:=fun z:Ext (u.alloc (.cells #[.int .i64 (k:Int),.slice a1 b2 b3,.int .i64 so,.int .i64 nn,.int .i64 mm,.slice (some ⟨g,o,none⟩) 2 d3] 25))=>z.cell hx5
 have ez0:=fun z:Ext (u.alloc (.cells #[.int .i64 (k:Int),.slice a1 b2 b3,.int .i64 so,.int .i64 nn,.int .i64 mm,.slice (some ⟨g,o,none⟩) 2 d3] 25))=>z.cell hy0
 have ez1:=fun z:Ext (u.alloc (.cells #[.int .i64 (k:Int),.slice a1 b2 b3,.int .i64 so,.int .i64 nn,.int .i64 mm,.slice (some ⟨g,o,none⟩) 2 d3] 25))=>z.cell hy1
 have ez2:=fun z:Ext (u.alloc (.cells #[.int .i64 (k:Int),.slice a1 b2 b3,.int .i64 so,.int .i64 nn,.int .i64 mm,.slice (some ⟨g,o,none⟩) 2 d3] 25))=>z.cell hy2
 have ez3:=fun z:Ext (u.alloc (.cells #[.int .i64 (k:Int),.slice a1 b2 b3,.int .i64 so,.int .i64 nn,.int .i64 mm,.slice (some ⟨g,o,none⟩) 2 d3] 25))=>z.cell hy3
 have ez4:=fun z:Ext (u.alloc (.cells #[.int .i64 (k:Int),.slice a1 b2 b3,.int .i64 so,.int .i64 nn,.int .i64 mm,.slice (some ⟨g,o,none⟩) 2 d3] 25))=>z.cell hy4
 have ez5:=fun z:Ext (u.alloc (.cells #[.int .i64 (k:Int),.slice a1 b2 b3,.int .i64 so,.int .i64 nn,.int .i64 mm,.slice (some ⟨g,o,none⟩) 2 d3] 25))=>z.cell hy5
 clear y0 y1 y2 y3 y4 y5 hx0 hx1 hx2 hx3 hx4 hx5 hy0 hy1 hy2 hy3 hy4 hy5
 refine kFx [6,10,20] [] [0,1,2,3,4,5,6,7,8,9,10,11,12,13,14,15,16,17,18,19,20,21,22] (by kernel_rfl) (by kernel_rfl) ?_
 iterate 6 (refine kCq rfl rfl rfl rfl rfl ?_;intro K' hK';go_big_quiet_op;go_big_quiet_on)
 refine kMw rfl rfl rfl rfl (fun w=>by go_simp) (fun w' hu hd=>HA.out w' (HU.out.trans_ext hu)) ?_
 simp only [Act.put,List.setIfInBounds_toArray,List.set_cons_zero,List.set_cons_succ]
 iterate 3 (refine kCq rfl rfl rfl rfl rfl ?_;intro K' hK';go_big_quiet_op;go_big_quiet_on)
 refine kMw rfl rfl rfl rfl (fun w=>by go_simp) (fun w' hu hd=>HWD.out w') ?_
 simp only [Act.put,List.setIfInBounds_toArray,List.set_cons_zero,List.set_cons_succ]
 iterate 9 (refine kCq rfl rfl rfl rfl rfl ?_;intro K' hK';go_big_quiet_op;go_big_quiet_on)
 refine kMw rfl rfl rfl rfl (fun w=>by go_simp) (fun w' hu hd=>HB.out w' (HU.out.trans_ext hu)) ?_
 simp only [Act.put,List.setIfInBounds_toArray,List.set_cons_zero,List.set_cons_succ]
 iterate 2 (refine kCq rfl rfl rfl rfl rfl ?_;intro K' hK';go_big_quiet_op;go_big_quiet_on)
 intro w9 hg
 have HW9:=Lib.hid (HU.out.trans_ext hg.up)
 clear hg ey0 ey1 ey2 ey3 ey4 ey5 ex0 ex1 ex2 ex3 ex4 ex5 ez0 ez1 ez2 ez3 ez4 ez5
 go_wp2_with fail
 go_ret
 exact⟨congrArg (fun z=>Ending.returned (.string z)) (show ByteArray.mk A.toArray++ByteArray.mk [32].toArray++ByteArray.mk W.toArray++ByteArray.mk [32].toArray++ByteArray.mk B.toArray=⟨(A++[32]++W++[32]++B).toArray⟩ by simp only [ByteArray.mk_append_mk]),HW9.out⟩
theorem opJ_len {op:Int} {place:Nat} {x:Nd} {last:Bool} (hok:okF x):(opJ op place x last).length≤175*kCz x+200:=by
 have h1:=jn_len hok true
 have h2:=jn_len hok last
 rw [opJ_eq]
 split
 ·simp only [List.length_append,List.length_cons,List.length_nil];omega
 ·omega
theorem rtext_calls:∀(k:Nat) (nd:Nd),kCz nd≤k→k≤10000000→okF nd→∀(w0:World) (P:Nat→Prop) (v:Value),NdV w0 P nd v→RtP w0 nd v
 | 0,nd,hk,_,_,_,_,_,_=>by have:=kJx nd;omega
 | k+1,.mk op names so n m l,hk,hk2,hok,w0,P,v,h=>by
  intro last u hu
  have hop:=ok_op hok
  have h':=h.ext hu
  by_cases h11:op<11
  ·have hat:=ratom_calls op so n m names l v hok h11 h
   obtain⟨a1,c1,a2,c2,rfl,-,-⟩:=h'.open
   rw [prT_atom last h11]
   exact rtext_atom op so n m a1 _ c1 a2 _ c2 _ last u h11 (fun w hw=>hat w (hu.trans_ext hw))
  obtain⟨a1,c1,a2,c2,rfl,hs,hls⟩:=h'.open
  have hok':=hok
  unfold okF at hok
  obtain⟨hnm,hc,hss⟩:=hok
  have hsz:kBk l≤k:=by unfold kCz at hk;omega
  by_cases h16:op<16
  ·by_cases e11:op=11
   ·subst e11
    have hl1:l.length=1:=by omega
    match l,hl1 with
    | [x],_ =>
     unfold oksF at hss
     have hxs:kCz x≤k:=by simp only [kBk] at hsz;omega
     obtain⟨g,o,xo,xn1,xn2,xn3,xs,xm,xq,xl1,xl2,xl3,rfl,d0,d1,d2,d3,d4,d5,hn⟩:=ls_one hls
     have ih:=rtext_calls k x hxs (by omega) hss.1 u P _ hn
     have hlen:=jn_len hss.1 true
     rw [jn_not]
     exact rtext_not so n m a1 _ c1 g o c2 xo xn1 xn2 xn3 xs xm xq xl1 xl2 xl3 _ (by have:=opJ_len (op:=11) (place:=0) (last:=last) hss.1;omega) last u d0 d1 d2 d3 d4 d5 (fun w hw=>oper_calls 11 (by decide) (by decide) 0 (by decide) x _ _ _ _ _ _ _ _ _ _ (nd_op hn) last w (by omega) (fun b z hz=>ih b z (hw.trans_ext hz)))
   ·have hl2:l.length=2:=by omega
    obtain⟨kk,rfl⟩:=kUj hop.1
    match l,hl2 with
    | [x,y],_ =>
     unfold oksF oksF at hss
     have hxs:kCz x≤k:=by simp only [kBk] at hsz;omega
     have hys:kCz y≤k:=by simp only [kBk] at hsz;omega
     obtain⟨g,o,xo,xn1,xn2,xn3,xs,xm,xq,xl1,xl2,xl3,rfl,d0,d1,d2,d3,d4,d5,hn⟩:=ls_one hls
     obtain⟨g',o',yo,yn1,yn2,yn3,ys,ym,yq,yl1,yl2,yl3,he,t0,t1,t2,t3,t4,t5,hn'⟩:=hls 1 y rfl
     simp only [Option.some.injEq,Addr.mk.injEq,and_true] at he
     obtain⟨rfl,rfl⟩:=he
     simp only [Nat.one_mul] at t0 t1 t2 t3 t4 t5
     have ihx:=rtext_calls k x hxs (by omega) hss.1 u P _ hn
     have ihy:=rtext_calls k y hys (by omega) hss.2.1 u P _ hn'
     have hlx:=jn_len hss.1 true
     have hly:=jn_len hss.2.1 true
     rw [jn_bin (by omega) h16]
     exact rtext_two kk so n m a1 _ c1 g o c2 xo xn1 xn2 xn3 xs xm xq xl1 xl2 xl3 yo yn1 yn2 yn3 ys ym yq yl1 yl2 yl3 _ _ (by have:=opJ_len (op:=kk) (place:=0) (last:=false) hss.1;omega) (by have:=opJ_len (op:=kk) (place:=1) (last:=last) hss.2.1;omega) last u (by omega) (by omega) d0 d1 d2 d3 d4 d5 t0 t1 t2 t3 t4 t5
      (fun w hw=>oper_calls kk (by omega) (by omega) 0 (by decide) x _ _ _ _ _ _ _ _ _ _ (nd_op hn) false w (by omega) (fun b z hz=>ihx b z (hw.trans_ext hz)))
      (fun w hw=>oper_calls kk (by omega) (by omega) 1 (by decide) y _ _ _ _ _ _ _ _ _ _ (nd_op hn') last w (by omega) (fun b z hz=>ihy b z (hw.trans_ext hz)))
  ·have hl1:l.length=1:=by omega
   have hn1:names.length=1:=by omega
   have hso:0≤so∧so<4:=by omega
   obtain⟨kk,rfl⟩:=kUj hop.1
   match l,hl1,names,hn1 with
   | [x],_,[nmx],_ =>
    unfold oksF at hss
    have hxs:kCz x≤k:=by simp only [kBk] at hsz;omega
    obtain⟨g,o,xo,xn1,xn2,xn3,xs,xm,xq,xl1,xl2,xl3,rfl,d0,d1,d2,d3,d4,d5,hn⟩:=ls_one hls
    have ih:=rtext_calls k x hxs (by omega) hss.1 u P _ hn
    have hlx:=jn_len hss.1 true
    have hnl:=kUx (hnm nmx (by simp))
    obtain⟨a,c,he,hg⟩:=hs.get
    simp only [Value.slice.injEq] at he
    obtain⟨rfl,-,rfl⟩:=he
    obtain⟨gn,on,rfl,dn⟩:=hg 0 (sV nmx) rfl
    rw [Nat.add_zero] at dn
    have hsl:(kOj so).length≤10:=by rw [←sort_word hso.1 hso.2];exact sortW_len _
    have hql:(quW (kk:Int)).length≤10:=by rw [quW_word ⟨by omega,by omega⟩];exact wordsF_len _
    rw [jn_qu (by omega),sort_word hso.1 hso.2]
    exact rtext_qu kk so n m _ _ c1 g o c2 xo xn1 xn2 xn3 xs xm xq xl1 xl2 xl3 _ _ (by simp only [List.length_append,List.length_cons,List.length_nil];omega) (by omega) last u (by omega) d0 d1 d2 d3 d4 d5
     (fun w hw=>binds_calls kk (by omega) (by omega) so n m gn on _ c1 _ _ c2 nmx (by omega) w ((hw.cell (World.block_lt_of_cell? u _ dn) (by simp)).trans dn) (by simp))
     (fun w hw=>ih true w hw)
theorem rnode_calls (nd:Nd) (v:Value) (w:World) (P:Nat→Prop) (h:NdV w P nd v) (hk:kCz nd≤10000000) (hin:inN 10000000 nd):Calls Tryz.prog 47 #[v] w fun e w'=>e=.returned (pairV (nodeF nd))∧Upto [] w w':=by
 have HCQ:=Lib.hid (fun u (hu:Upto [] w u)=>checkR_calls nd v u P (h.ext hu) hk hin)
 have HN:=Lib.hid h
 obtain⟨o1,a1,a2,a3,s1,n1,m1,l1,l2,l3,rfl⟩:=h.six
 have hu1:Upto [] w (w.alloc (.cells #[.int .i64 o1,.slice a1 a2 a3,.int .i64 s1,.int .i64 n1,.int .i64 m1,.slice l1 l2 l3] 25)):=(Upto.refl [] w).alloc _
 have HU1:=Lib.hid hu1
 have hb:=kAq w (.cells #[.int .i64 o1,.slice a1 a2 a3,.int .i64 s1,.int .i64 n1,.int .i64 m1,.slice l1 l2 l3] 25)
 have HB1:=Lib.hid hb
 obtain⟨y0,y1,y2,y3,y4,y5⟩:=kAx hb
 by_cases hR:kSq kBj nd=0
 case neg =>
  obtain⟨R,hR2⟩:∃R,kSq kBj nd=R:=⟨_,rfl⟩
  have HPF:Hid (nodeF nd=([],R)):=Lib.hid (by unfold nodeF;rw [if_neg hR,hR2])
  rw [hR2] at HCQ hR
  have r1:((R:Int)==0)=false:=by rw [beq_eq_false_iff_ne];omega
  have r2:((R:Int) != 0)=true:=by rw [bne,r1];rfl
  clear hR hR2 hin hk hu1 hb h
  go_enter Tryz.func47,Tryz.ntmps47
  go_wp2_with fail
  refine (HCQ.out _ HU1.out).mono ?_
  rintro e w2 ⟨rfl,hu2⟩
  have HU2:=Lib.hid (HU1.out.trans_ext hu2)
  clear hu2
  go_wp2_with fail
  go_ret2
  exact⟨by rw [HPF.out];rfl,HU2.out⟩
 case pos =>
  obtain⟨hob,hg⟩:=check_ok (fun x=>kXz) hR
  have HPF:Hid (nodeF nd=cutP (jn (prT true nd))):=Lib.hid (by unfold nodeF;rw [if_pos hR])
  rw [hR] at HCQ
  have HT:=Lib.hid (rtext_calls _ nd (Nat.le_refl _) hk hob w P _ h true)
  have hlen:=jn_len hob true
  have hl2:(jn (prT true nd)).length≤2000000000:=by omega
  clear hR hin hk hu1 hb h hob hg hlen
  generalize jn (prT true nd)=S at *
  go_enter Tryz.func47,Tryz.ntmps47
  go_wp2_with fail
  refine (HCQ.out _ HU1.out).mono ?_
  rintro e w2 ⟨rfl,hu2⟩
  have HU2:=Lib.hid (HU1.out.trans_ext hu2)
  have hb2:=hu2.at HB1.out (by simp)
  obtain⟨z0,z1,z2,z3,z4,z5⟩:=kAx hb2
  clear hu2 hb2
  go_wp2_with fail
  refine (HT.out _ HU2.out).mono ?_
  rintro e w3 ⟨rfl,hu3⟩
  have HU3:=Lib.hid (HU2.out.trans_ext hu3)
  clear hu3 z0 z1 z2 z3 z4 z5
  have sI:(S.length:Int)≤9223372036854775807:=by omega
  have s0:(ByteArray.mk S.toArray).size=S.length:=rfl
  by_cases hz:65536<S.length
  ·have hzI:(65536:Int)<S.length:=by omega
   have HC:Hid (cutP S=([],2)):=Lib.hid (by unfold cutP;rw [if_pos hz])
   clear hz
   go_wp2_with fail
   go_ret2
   exact⟨by rw [HPF.out,HC.out];rfl,HU3.out⟩
  ·have hzI:¬(65536:Int)<S.length:=by omega
   have HC:Hid (cutP S=(S,0)):=Lib.hid (by unfold cutP;rw [if_neg hz])
   clear hz
   go_wp2_with fail
   go_ret2
   exact⟨by rw [HPF.out,HC.out];rfl,HU3.out⟩
theorem lm_start (w:World):LmI w ((((w.alloc (.cells #[.string ⟨#[97,98,99,100,101,102,103,104,105,106,107,108,109,110,111,112]⟩,.string ⟨#[97,98,99,100,101,102,103,104,105,106,107,108,109,110,111,112]⟩] 9)).alloc (.cells #[.int .i64 4,.slice (some ⟨w.heap.size,0,none⟩) 2 2,.int .i64 0,.int .i64 0,.int .i64 0,.slice none 0 0] 25)).alloc (.cells #[.int .i64 4,.slice (some ⟨w.heap.size,0,none⟩) 2 2,.int .i64 0,.int .i64 0,.int .i64 0,.slice none 0 0] 25)).alloc (.cells #[] 25)) (fun _ _=>undef) (.slice (some ⟨w.heap.size+3,0,none⟩) 0 0) []:=by
 have h0:((((w.alloc (.cells #[.string ⟨#[97,98,99,100,101,102,103,104,105,106,107,108,109,110,111,112]⟩,.string ⟨#[97,98,99,100,101,102,103,104,105,106,107,108,109,110,111,112]⟩] 9)).alloc (.cells #[.int .i64 4,.slice (some ⟨w.heap.size,0,none⟩) 2 2,.int .i64 0,.int .i64 0,.int .i64 0,.slice none 0 0] 25)).alloc (.cells #[.int .i64 4,.slice (some ⟨w.heap.size,0,none⟩) 2 2,.int .i64 0,.int .i64 0,.int .i64 0,.slice none 0 0] 25)).alloc (.cells #[] 25)).heap[w.heap.size]?=some (.cells #[.string ⟨#[97,98,99,100,101,102,103,104,105,106,107,108,109,110,111,112]⟩,.string ⟨#[97,98,99,100,101,102,103,104,105,106,107,108,109,110,111,112]⟩] 9 (0,0)):=kCx (kCx (kCx (kAq w _) _) _) _
 have h1:=kCx (kCx (kFz w (.cells #[.string ⟨#[97,98,99,100,101,102,103,104,105,106,107,108,109,110,111,112]⟩,.string ⟨#[97,98,99,100,101,102,103,104,105,106,107,108,109,110,111,112]⟩] 9) (.cells #[.int .i64 4,.slice (some ⟨w.heap.size,0,none⟩) 2 2,.int .i64 0,.int .i64 0,.int .i64 0,.slice none 0 0] 25)) (.cells #[.int .i64 4,.slice (some ⟨w.heap.size,0,none⟩) 2 2,.int .i64 0,.int .i64 0,.int .i64 0,.slice none 0 0] 25)) (.cells #[] 25)
 have h2:=kCx (new_at2 w (.cells #[.string ⟨#[97,98,99,100,101,102,103,104,105,106,107,108,109,110,111,112]⟩,.string ⟨#[97,98,99,100,101,102,103,104,105,106,107,108,109,110,111,112]⟩] 9) (.cells #[.int .i64 4,.slice (some ⟨w.heap.size,0,none⟩) 2 2,.int .i64 0,.int .i64 0,.int .i64 0,.slice none 0 0] 25) (.cells #[.int .i64 4,.slice (some ⟨w.heap.size,0,none⟩) 2 2,.int .i64 0,.int .i64 0,.int .i64 0,.slice none 0 0] 25)) (.cells #[] 25)
 have hs:(((w.alloc (.cells #[.string ⟨#[97,98,99,100,101,102,103,104,105,106,107,108,109,110,111,112]⟩,.string ⟨#[97,98,99,100,101,102,103,104,105,106,107,108,109,110,111,112]⟩] 9)).alloc (.cells #[.int .i64 4,.slice (some ⟨w.heap.size,0,none⟩) 2 2,.int .i64 0,.int .i64 0,.int .i64 0,.slice none 0 0] 25)).alloc (.cells #[.int .i64 4,.slice (some ⟨w.heap.size,0,none⟩) 2 2,.int .i64 0,.int .i64 0,.int .i64 0,.slice none 0 0] 25)).heap.size=w.heap.size+3:=by simp
 have hr:=ownsRow_six (((w.alloc (.cells #[.string ⟨#[97,98,99,100,101,102,103,104,105,106,107,108,109,110,111,112]⟩,.string ⟨#[97,98,99,100,101,102,103,104,105,106,107,108,109,110,111,112]⟩] 9)).alloc (.cells #[.int .i64 4,.slice (some ⟨w.heap.size,0,none⟩) 2 2,.int .i64 0,.int .i64 0,.int .i64 0,.slice none 0 0] 25)).alloc (.cells #[.int .i64 4,.slice (some ⟨w.heap.size,0,none⟩) 2 2,.int .i64 0,.int .i64 0,.int .i64 0,.slice none 0 0] 25))
 rw [hs] at hr
 refine⟨((((Upto.refl [] w).alloc _).alloc _).alloc _).alloc _,h1,by simpa using h2,NdV.atom (names:=[ltA,ltA]) (SlP.block (P:=fun b=>b=w.heap.size) rfl h0 2 2 ([ltA,ltA].map sV) (fun j u hj=>by
  match j,hj with
  | 0,hj=>exact hj
  | 1,hj=>exact hj)),⟨?_,by simp,?_⟩,?_⟩
 ·simpa [cellsN] using hr
 ·intro g hg
  cases hg
  exact⟨show w.heap.size≤w.heap.size+3 by omega,show w.heap.size+3≠w.heap.size+1 by omega⟩
 ·intro g hg
  cases hg
  exact Nat.le_refl _
theorem printerLimits_walk (z d:Int) (w:World) (hz:0≤z∧z≤255) (hd:0≤d∧d≤255) (hE:EnvP w):Calls Tryz.prog 12 #[.int .u8 z,.int .u8 d] w fun e w'=>e=.returned (.bool true)∧Upto [] w w':=by
 obtain⟨m,hm,hm100⟩:∃m:Nat,z % 100=(m:Int)∧m<100:=⟨(z % 100).toNat,by omega,by omega⟩
 have jm0:(0:Int)≤m:=by omega
 have jm1:(m:Int)<100:=by omega
 obtain⟨n,hn,hn20⟩:∃n:Nat,d % 20=(n:Int)∧n<20:=⟨(d % 20).toNat,by omega,by omega⟩
 have jn0:(0:Int)≤n:=by omega
 have jn1:(n:Int)<20:=by omega
 have HEE:Hid (∀u,Upto [] w u→EnvP u):=Lib.hid (fun u hu=>hE.ext hu)
 have HL0:=Lib.hid (lm_start w)
 clear hE
 go_enter Tryz.func12,Tryz.ntmps12
 go_wp2_with fail
 generalize hWD:((((w.alloc (.cells #[.string ⟨#[97,98,99,100,101,102,103,104,105,106,107,108,109,110,111,112]⟩,.string ⟨#[97,98,99,100,101,102,103,104,105,106,107,108,109,110,111,112]⟩] 9)).alloc (.cells #[.int .i64 4,.slice (some ⟨w.heap.size,0,none⟩) 2 2,.int .i64 0,.int .i64 0,.int .i64 0,.slice none 0 0] 25)).alloc (.cells #[.int .i64 4,.slice (some ⟨w.heap.size,0,none⟩) 2 2,.int .i64 0,.int .i64 0,.int .i64 0,.slice none 0 0] 25)).alloc (.cells #[] 25))=W1 at *
 clear hWD
 go_loopw [8,9] (fun t8 t9 wr=>∃(k:Nat) (va:Option Addr) (vc:Nat) (c:Nat→Nat→Value),k≤1440+m∧t9=.int .i64 k∧t8=.slice va k vc∧Hid (LmI w wr c (.slice va k vc) (List.replicate k atN))) (fun _ t9 _=>1600-(intOf t9).toNat)
 case atStart=>exact⟨0,_,_,_,by omega,rfl,rfl,HL0⟩
 case round =>
  obtain⟨k,va,vc,c,hk,rfl,rfl,HL⟩:=hrel
  have hk0:(0:Int)≤k:=by omega
  rcases Nat.lt_or_ge k (1440+m) with hlt | hge
  ·have hltI:(k:Int)<1440+m:=by omega
   have hA:=HL.out.a
   obtain⟨x0,x1,x2,x3,x4,x5⟩:=kAx hA
   obtain⟨i1,hi1,hy0,hy1,hy2⟩:=info54'
   have HR:=Lib.hid (by have h:=HL.out.row.row;rw [List.length_replicate] at h;exact h)
   have HAP:=Lib.hid (fun b5 c5 w5 (ho5:w5.ownsRow 0 25 6 (.slice b5 (k+1) c5) (k+1) (cellsN c k++[.int .i64 4,.slice (some ⟨w.heap.size,0,none⟩) 2 2,.int .i64 0,.int .i64 0,.int .i64 0,.slice none 0 0])) (hu5:Upto (Value.slice va k vc).ownBlock.toList (wr.alloc (.cells #[.int .i64 4,.slice (some ⟨w.heap.size,0,none⟩) 2 2,.int .i64 0,.int .i64 0,.int .i64 0,.slice none 0 0] 25)) w5) (hw5:∀g,(Value.slice b5 (k+1) c5).ownBlock=some g→(Value.slice va k vc).ownBlock=some g∨(wr.alloc (.cells #[.int .i64 4,.slice (some ⟨w.heap.size,0,none⟩) 2 2,.int .i64 0,.int .i64 0,.int .i64 0,.slice none 0 0] 25)).heap.size≤g)=>(HL.out.ext ((Upto.refl [] wr).alloc (.cells #[.int .i64 4,.slice (some ⟨w.heap.size,0,none⟩) 2 2,.int .i64 0,.int .i64 0,.int .i64 0,.slice none 0 0] 25))).app (List.length_replicate) ((HL.out.at0.ext ((Upto.refl [] wr).alloc (.cells #[.int .i64 4,.slice (some ⟨w.heap.size,0,none⟩) 2 2,.int .i64 0,.int .i64 0,.int .i64 0,.slice none 0 0] 25))).mono (fun b hb _=>⟨by unfold New;omega,by omega,fun e=>by have:=HL.out.own b e;omega⟩)) ho5 hu5 hw5)
   clear hA
   go_wp2_with (at_builtin
                refine kHk _ rfl (.tmp 38) (.tmp 40) 23 rfl 25 i1 (.agg #[.int .i64 0,.slice none 0 0,.int .i64 0,.int .i64 0,.int .i64 0,.slice none 0 0]) 6 80 Tryz.underlying23 hi1 hy0 hy1 hy2 rfl (by decide) (.slice va k vc) k (cellsN c k) rfl (HR.out.alloc _) ⟨wr.heap.size,0,none⟩ 1 1 [.int .i64 4,.slice (some ⟨w.heap.size,0,none⟩) 2 2,.int .i64 0,.int .i64 0,.int .i64 0,.slice none 0 0] rfl rfl (six_at (kAq _ _)) (by simp [Value.oneCell']) (by unfold maxLen;omega) (by omega) ?_
                intro b5 c5 w5 ho5 hu5 hw5
                have HL5:=Lib.hid (HAP.out b5 c5 w5 ho5 hu5 hw5)
                clear ho5 hu5 hw5)
   go_roundw
   case rel=>exact⟨k+1,_,_,_,by omega,by go_num,rfl,Lib.hid (by rw [List.replicate_succ'];exact HL5.out)⟩
   case measure=>simp [intOf];omega
  ·have hgeI:¬(k:Int)<1440+m:=by omega
   obtain rfl:k=1440+m:=by omega
   have HO:Hid (LmI w wr c (.slice va (1440+m) vc) (List.replicate (1440+m) atN)):=HL
   have HM2:Hid (m<100):=Lib.hid hm100
   clear HL hk hge hk0
   go_wp2_with fail
   go_loopw [8] (fun t8 wr=>∃(L:Nat) (va:Option Addr) (vc:Nat) (c:Nat→Nat→Value) (ms:List Nd),1≤L∧L≤2000∧t8=.slice va L vc∧Hid (ms.length=L)∧Hid (LmI w wr c (.slice va L vc) ms)∧Hid (kBk ms+ms.length=2*(1440+m))∧Hid (insN 10000000 ms)) (fun t8 _=>lenOf t8)
   case atStart=>exact⟨1440+m,_,_,_,_,by omega,by omega,rfl,Lib.hid List.length_replicate,HO,Lib.hid (by rw [sizes_rep,List.length_replicate];omega),Lib.hid (insN_rep _)⟩
   case round =>
    obtain⟨L,va,vc,c,ms,hL1,hL2,rfl,HLN,HL,HSM,HIN⟩:=hrel
    have hL0:(0:Int)≤L:=by omega
    have hlist:=HL.out.list.2
    have hms:=HLN.out
    rcases Nat.lt_or_ge 1 L with hlt | hge
    ·have hltI:(1:Int)<L:=by omega
     obtain⟨x0,hx0⟩:∃x,ms[0]?=some x:=⟨_,List.getElem?_eq_getElem (by omega)⟩
     obtain⟨g,o,-,-,-,-,-,-,-,-,-,-,rfl,-⟩:=hlist 0 x0 hx0
     have HLS:=Lib.hid hlist
     have HU0:=Lib.hid (LmU.start HL.out)
     clear hlist hx0
     go_wp2_with fail
     obtain⟨W2,hW2⟩:∃x,x=wr:=⟨_,rfl⟩
     subst hW2
     go_loopw [10,11] (fun t10 t11 wr=>∃(i j:Nat) (ua:Option Addr) (uc:Nat) (c':Nat→Nat→Value) (us:List Nd),i=2*j∧i≤L∧t11=.int .i64 i∧t10=.slice ua j uc∧Hid (LmU w W2 wr c' (.slice ua j uc) us ms i j)) (fun _ t11 _=>2000-(intOf t11).toNat)
     case atStart=>exact⟨0,0,_,_,_,_,rfl,by omega,rfl,rfl,HU0⟩
     case round =>
      obtain⟨i,j,ua,uc,c',us,hij,hiL,rfl,rfl,HU⟩:=hrel
      have hi0:(0:Int)≤i:=by omega
      have HIJ:=Lib.hid hij
      clear hij
      rcases Nat.lt_or_ge (i+1) L with hl2 | hg2
      ·have hl2I:(i:Int)+1<L:=by omega
       have hl3I:(i:Int)<L:=by omega
       obtain⟨x,hx⟩:∃x,ms[i]?=some x:=⟨_,List.getElem?_eq_getElem (by omega)⟩
       obtain⟨y,hy⟩:∃y,ms[i+1]?=some y:=⟨_,List.getElem?_eq_getElem (by omega)⟩
       obtain⟨g1,o1,xo,xn1,xn2,xn3,xs,xm,xq,xl1,xl2,xl3,e1,c0,c1,c2,c3,c4,c5,hnx⟩:=(HLS.out.ext HU.out.up) i x hx
       obtain⟨g2,o2,yo,yn1,yn2,yn3,ys,ym,yq,yl1,yl2,yl3,e2,d0,d1,d2,d3,d4,d5,hny⟩:=(HLS.out.ext HU.out.up) (i+1) y hy
       simp only [Option.some.injEq,Addr.mk.injEq,and_true] at e1 e2
       obtain⟨rfl,rfl⟩:=e1
       obtain⟨rfl,rfl⟩:=e2
       have HNX:=Lib.hid hnx
       have HNY:=Lib.hid hny
       have HST:Hid (kBk (ms.take (i+2))+(i+2)=kBk (ms.take i)+i+kCz (.mk 12 [] 0 0 0 [x,y])+1):=Lib.hid (by
        have h1:=sizes_take hx
        have h2:kBk (ms.take (i+2))=kBk (ms.take (i+1))+kCz y:=sizes_take hy
        simp only [kCz,kBk]
        omega)
       have HPI:=Lib.hid (pair_in (insN_mem HIN.out (List.mem_of_getElem? hx)) (insN_mem HIN.out (List.mem_of_getElem? hy)))
       clear hnx hny hx hy
       go_wp2_with fail
       have k0:∀u:Ext wr,u.w.cell? ⟨g,o+i*6,none⟩=some _:=fun u=>u.cell c0
       have k1:∀u:Ext wr,u.w.cell? ⟨g,o+i*6+1,none⟩=some _:=fun u=>u.cell c1
       have k2:∀u:Ext wr,u.w.cell? ⟨g,o+i*6+2,none⟩=some _:=fun u=>u.cell c2
       have k3:∀u:Ext wr,u.w.cell? ⟨g,o+i*6+3,none⟩=some _:=fun u=>u.cell c3
       have k4:∀u:Ext wr,u.w.cell? ⟨g,o+i*6+4,none⟩=some _:=fun u=>u.cell c4
       have k5:∀u:Ext wr,u.w.cell? ⟨g,o+i*6+5,none⟩=some _:=fun u=>u.cell c5
       have m0:∀u:Ext wr,u.w.cell? ⟨g,o+(i+1)*6,none⟩=some _:=fun u=>u.cell d0
       have m1:∀u:Ext wr,u.w.cell? ⟨g,o+(i+1)*6+1,none⟩=some _:=fun u=>u.cell d1
       have m2:∀u:Ext wr,u.w.cell? ⟨g,o+(i+1)*6+2,none⟩=some _:=fun u=>u.cell d2
       have m3:∀u:Ext wr,u.w.cell? ⟨g,o+(i+1)*6+3,none⟩=some _:=fun u=>u.cell d3
       have m4:∀u:Ext wr,u.w.cell? ⟨g,o+(i+1)*6+4,none⟩=some _:=fun u=>u.cell d4
       have m5:∀u:Ext wr,u.w.cell? ⟨g,o+(i+1)*6+5,none⟩=some _:=fun u=>u.cell d5
       clear c0 c1 c2 c3 c4 c5 d0 d1 d2 d3 d4 d5
       refine kFk [10,12] [] [0,1,2,3,4,5,6,7,8,9,10,11,12] [13,14] 13 (by kernel_rfl) (by kernel_rfl) (by kernel_rfl) ?_
       iterate 10 (refine kCq rfl rfl rfl rfl rfl ?_;intro K' hK';go_big_quiet_op;go_big_quiet_on)
       refine kYw (Y:=Nat) (fun b=>.slice (some ⟨b,0,none⟩) 2 2) (fun b u=>u.heap[b]?=some (.cells #[.int .i64 xo,.slice xn1 xn2 xn3,.int .i64 xs,.int .i64 xm,.int .i64 xq,.slice xl1 xl2 xl3,.int .i64 yo,.slice yn1 yn2 yn3,.int .i64 ys,.int .i64 ym,.int .i64 yq,.slice yl1 yl2 yl3] 25 (0,0))∧wr.heap.size≤b) (fun _=>[]) rfl rfl rfl rfl (fun _ _ _ h hu=>⟨hu.at h.1 (by simp),h.2⟩) (fun _=>List.nodup_nil) (fun w' post hu hd hp=>(congrArg (kNj Tryz.prog post) (show _=Result.ok (Next.value (.slice (some ⟨w'.heap.size,0,none⟩) 2 2)) (w'.alloc (.cells #[.int .i64 xo,.slice xn1 xn2 xn3,.int .i64 xs,.int .i64 xm,.int .i64 xq,.slice xl1 xl2 xl3,.int .i64 yo,.slice yn1 yn2 yn3,.int .i64 ys,.int .i64 ym,.int .i64 yq,.slice yl1 yl2 yl3] 25)) from by go_simp)).mpr (hp w'.heap.size _ ((Upto.refl [] w').alloc _) ⟨kAq _ _,hu.size⟩ (fun b hb=>by cases hb))) ?_
       intro b10
       simp only [Act.put,List.setIfInBounds_toArray,List.set_cons_zero,List.set_cons_succ]
       (refine kCq rfl rfl rfl rfl rfl ?_;intro K' hK';go_big_quiet_op;go_big_quiet_on)
       refine kYw (Y:=Nat) (fun b=>.slice (some ⟨b,0,none⟩) 1 1) (fun b u=>u.heap[b]?=some (.cells #[.int .i64 12,.slice none 0 0,.int .i64 0,.int .i64 0,.int .i64 0,.slice (some ⟨b10,0,none⟩) 2 2] 25 (0,0))) (fun _=>[]) rfl rfl rfl rfl (fun _ _ _ h hu=>hu.at h (by simp)) (fun _=>List.nodup_nil) (fun w' post hu hd hp=>(congrArg (kNj Tryz.prog post) (show _=Result.ok (Next.value (.slice (some ⟨w'.heap.size,0,none⟩) 1 1)) (w'.alloc (.cells #[.int .i64 12,.slice none 0 0,.int .i64 0,.int .i64 0,.int .i64 0,.slice (some ⟨b10,0,none⟩) 2 2] 25)) from by go_simp)).mpr (hp w'.heap.size _ ((Upto.refl [] w').alloc _) (kAq _ _) (fun b hb=>by cases hb))) ?_
       intro b12
       simp only [Act.put,List.setIfInBounds_toArray,List.set_cons_zero,List.set_cons_succ]
       intro w10 hg
       have HU10:=Lib.hid hg.up
       have HB12:Hid (w10.heap[b12]?=some (.cells #[.int .i64 12,.slice none 0 0,.int .i64 0,.int .i64 0,.int .i64 0,.slice (some ⟨b10,0,none⟩) 2 2] 25 (0,0))):=Lib.hid hg.hold.1
       have HB10:=Lib.hid hg.hold.2.1
       have HPN:=Lib.hid (HU.out.pair HNX.out HNY.out HU10.out HB10.out.1 HB10.out.2)
       simp only [List.drop_succ_cons,List.drop_zero]
       clear hg k0 k1 k2 k3 k4 k5 m0 m1 m2 m3 m4 m5
       have HRR:=Lib.hid (by have h:=(HU.out.lm.ext HU10.out).row.row;rw [HU.out.len] at h;exact h)
       obtain⟨i1,hi1,hy0,hy1,hy2⟩:=info54'
       have HA:=Lib.hid (fun b5 c5 w5 (ho5:w5.ownsRow 0 25 6 (.slice b5 (j+1) c5) (j+1) (cellsN c' j++[.int .i64 12,.slice none 0 0,.int .i64 0,.int .i64 0,.int .i64 0,.slice (some ⟨b10,0,none⟩) 2 2])) (hu5:Upto (Value.slice ua j uc).ownBlock.toList w10 w5) (hw5:∀g,(Value.slice b5 (j+1) c5).ownBlock=some g→(Value.slice ua j uc).ownBlock=some g∨w10.heap.size≤g)=>HU.out.app HU10.out HPN.out ho5 hu5 hw5 HST.out HPI.out)
       go_wp2_with (at_builtin
                    refine kHk _ rfl (.tmp 52) (.tmp 64) 23 rfl 25 i1 (.agg #[.int .i64 0,.slice none 0 0,.int .i64 0,.int .i64 0,.int .i64 0,.slice none 0 0]) 6 80 Tryz.underlying23 hi1 hy0 hy1 hy2 rfl (by decide) (.slice ua j uc) j (cellsN c' j) rfl HRR.out ⟨b12,0,none⟩ 1 1 [.int .i64 12,.slice none 0 0,.int .i64 0,.int .i64 0,.int .i64 0,.slice (some ⟨b10,0,none⟩) 2 2] rfl rfl (six_at HB12.out) (by simp [Value.oneCell']) (by have:=HIJ.out;unfold maxLen;omega) (by have:=HIJ.out;omega) ?_
                    intro b5 c5 w5 ho5 hu5 hw5
                    have HU5:=Lib.hid (HA.out b5 c5 w5 ho5 hu5 hw5)
                    clear ho5 hu5 hw5)
       go_roundw
       case rel=>exact⟨i+2,j+1,_,_,_,_,by have:=HIJ.out;omega,by omega,by go_num,rfl,HU5⟩
       case measure=>simp [intOf];omega
      ·have hg2I:¬(i:Int)+1<L:=by omega
       have hcase:L=i∨L=i+1:=by omega
       rcases hcase with hLi | hLi
       ·have hpar:(L:Int) % 2=0:=by have:=HIJ.out;omega
        have HEN:=Lib.hid hLi
        have HSU:Hid (kBk us+us.length=2*(1440+m)):=Lib.hid (by
         have h1:=HU.out.sum
         rw [List.take_of_length_le (by omega)] at h1
         have h2:=HSM.out
         omega)
        have HLT:=Lib.hid hlt
        clear hLi hg2 hlt
        go_wp2_with fail
        go_roundw
        case rel=>exact⟨j,ua,uc,c',us,by have h1:=HIJ.out;have h2:=HEN.out;omega,by have h1:=HIJ.out;have h2:=HEN.out;omega,rfl,Lib.hid HU.out.len,Lib.hid HU.out.lm,HSU,Lib.hid HU.out.ins⟩
        case measure =>
         have h1:=HIJ.out
         have h2:=HEN.out
         simp [lenOf]
         omega
       ·have hpar:(L:Int) % 2=1:=by have:=HIJ.out;omega
        have hLm:(L:Int)-1=i:=by omega
        have hl3I:(i:Int)<L:=by omega
        have HEN:=Lib.hid hLi
        obtain⟨x,hx⟩:∃x,ms[i]?=some x:=⟨_,List.getElem?_eq_getElem (by omega)⟩
        obtain⟨g1,o1,xo,xn1,xn2,xn3,xs,xm,xq,xl1,xl2,xl3,e1,c0,c1,c2,c3,c4,c5,hnx⟩:=(HLS.out.ext HU.out.up) i x hx
        simp only [Option.some.injEq,Addr.mk.injEq,and_true] at e1
        obtain⟨rfl,rfl⟩:=e1
        have hal:Upto [] wr (wr.alloc (.cells #[.int .i64 xo,.slice xn1 xn2 xn3,.int .i64 xs,.int .i64 xm,.int .i64 xq,.slice xl1 xl2 xl3] 25)):=(Upto.refl [] wr).alloc _
        have HAL:=Lib.hid hal
        have HPN:Hid (NdV (wr.alloc (.cells #[.int .i64 xo,.slice xn1 xn2 xn3,.int .i64 xs,.int .i64 xm,.int .i64 xq,.slice xl1 xl2 xl3] 25)) (fun b=>New w b∧b≠w.heap.size+1∧(b<W2.heap.size∨wr.heap.size≤b)) x (.agg #[.int .i64 xo,.slice xn1 xn2 xn3,.int .i64 xs,.int .i64 xm,.int .i64 xq,.slice xl1 xl2 xl3])):=Lib.hid ((hnx.ext hal).mono (fun b hb _=>⟨hb.1,hb.2.1,Or.inl hb.2.2⟩))
        have HST:Hid (kBk (ms.take (i+1))+(i+1)=kBk (ms.take i)+i+kCz x+1):=Lib.hid (by
         have h1:=sizes_take hx
         omega)
        have HPI:=Lib.hid (insN_mem HIN.out (List.mem_of_getElem? hx))
        have HRR:=Lib.hid (by have h:=HU.out.lm.row.row;rw [HU.out.len] at h;exact h)
        obtain⟨i1,hi1,hy0,hy1,hy2⟩:=info54'
        have HA:=Lib.hid (fun b5 c5 w5 (ho5:w5.ownsRow 0 25 6 (.slice b5 (j+1) c5) (j+1) (cellsN c' j++[.int .i64 xo,.slice xn1 xn2 xn3,.int .i64 xs,.int .i64 xm,.int .i64 xq,.slice xl1 xl2 xl3])) (hu5:Upto (Value.slice ua j uc).ownBlock.toList (wr.alloc (.cells #[.int .i64 xo,.slice xn1 xn2 xn3,.int .i64 xs,.int .i64 xm,.int .i64 xq,.slice xl1 xl2 xl3] 25)) w5) (hw5:∀g,(Value.slice b5 (j+1) c5).ownBlock=some g→(Value.slice ua j uc).ownBlock=some g∨(wr.alloc (.cells #[.int .i64 xo,.slice xn1 xn2 xn3,.int .i64 xs,.int .i64 xm,.int .i64 xq,.slice xl1 xl2 xl3] 25)).heap.size≤g)=>HU.out.app HAL.out HPN.out ho5 hu5 hw5 HST.out HPI.out)
        have HLT:=Lib.hid hlt
        clear hLi hg2 hlt hal hnx hx
        go_wp2_with (at_builtin
                     refine kHk _ rfl (.tmp 70) (.tmp 77) 23 rfl 25 i1 (.agg #[.int .i64 0,.slice none 0 0,.int .i64 0,.int .i64 0,.int .i64 0,.slice none 0 0]) 6 80 Tryz.underlying23 hi1 hy0 hy1 hy2 rfl (by decide) (.slice ua j uc) j (cellsN c' j) rfl (HRR.out.alloc _) ⟨wr.heap.size,0,none⟩ 1 1 [.int .i64 xo,.slice xn1 xn2 xn3,.int .i64 xs,.int .i64 xm,.int .i64 xq,.slice xl1 xl2 xl3] rfl rfl (six_at (kAq _ _)) (by simp [Value.oneCell']) (by have:=HIJ.out;unfold maxLen;omega) (by have:=HIJ.out;omega) ?_
                     intro b5 c5 w5 ho5 hu5 hw5
                     have HU5:=Lib.hid (HA.out b5 c5 w5 ho5 hu5 hw5)
                     clear ho5 hu5 hw5)
        go_roundw
        case rel=>exact⟨j+1,_,_,_,_,by omega,by have h1:=HIJ.out;have h2:=HEN.out;omega,rfl,Lib.hid HU5.out.len,Lib.hid HU5.out.lm,Lib.hid (by
         have h1:=HU5.out.sum
         rw [List.take_of_length_le (by have h2:=HEN.out;have h3:=HLN.out;omega)] at h1
         have h2:=HSM.out
         have h3:=HEN.out
         have h4:=HLN.out
         omega),Lib.hid HU5.out.ins⟩
        case measure =>
         have h1:=HIJ.out
         have h2:=HEN.out
         have h3:=HLT.out
         simp [lenOf]
         omega
    ·obtain rfl:L=1:=by omega
     obtain⟨x,hx⟩:∃x,ms[0]?=some x:=⟨_,List.getElem?_eq_getElem (by omega)⟩
     have HX:=Lib.hid hx
     obtain⟨g,o,xo,xn1,xn2,xn3,xs,xm,xq,xl1,xl2,xl3,rfl,c0,c1,c2,c3,c4,c5,hnx⟩:=hlist 0 x hx
     simp only [Nat.zero_mul,Nat.add_zero] at c0 c1 c2 c3 c4 c5
     have HSX:Hid (kCz x≤10000000):=Lib.hid (by have h1:=kSx (List.mem_of_getElem? hx);have h2:=HSM.out;omega)
     have HIX:=Lib.hid (insN_mem HIN.out (List.mem_of_getElem? hx))
     have HNX:=Lib.hid hnx
     have HLS:=Lib.hid hlist
     have HRN:=Lib.hid (fun v u (P:Nat→Prop) (h:NdV u P x v)=>rnode_calls x v u P h HSX.out HIX.out)
     clear hnx hx hlist hge
     go_wp2_with fail
     refine (of_calls _ x (Nat.le_refl _) HSX.out (inN.big (by decide) _ HIX.out) _ _ wr HNX.out).mono ?_
     rintro e w3 ⟨v3,rfl,hn3,hu3⟩
     have HN3:=Lib.hid hn3
     have HU3:=Lib.hid hu3
     obtain⟨yo,yn1,yn2,yn3,ys,ym,yq,yl1,yl2,yl3,rfl⟩:=hn3.six
     clear hn3 hu3 c0 c1 c2 c3 c4 c5
     go_wp2_with fail
     refine (pnode_calls x _ w3 (New wr) HN3.out HSX.out HIX.out (HEE.out _ (HL.out.old.trans_ext HU3.out))).mono ?_
     rintro e w4 ⟨rfl,hu4⟩
     have HU4:=Lib.hid (HU3.out.trans_ext hu4)
     obtain⟨g1,o1,zo,zn1,zn2,zn3,zs,zm,zq,zl1,zl2,zl3,e1,c0,c1,c2,c3,c4,c5,hnz⟩:=(HLS.out.ext HU4.out) 0 x HX.out
     simp only [Option.some.injEq,Addr.mk.injEq,and_true] at e1
     obtain⟨rfl,rfl⟩:=e1
     simp only [Nat.zero_mul,Nat.add_zero] at c0 c1 c2 c3 c4 c5
     have HNZ:=Lib.hid hnz
     clear hu4 hnz
     obtain⟨⟨r1,r2⟩,hr⟩:∃r,nodeF x=r:=⟨_,rfl⟩
     rw [hr] at HRN ⊢
     clear hr
     unfold pairV at HRN ⊢
     simp only at HRN ⊢
     go_wp2_with fail
     refine (HRN.out _ _ _ HNZ.out).mono ?_
     rintro e w5 ⟨rfl,hu5⟩
     have HC0:=Lib.hid (HL.out.ext (HU4.out.trans_ext hu5)).chain
     clear hu5 c0 c1 c2 c3 c4 c5
     go_wp2_with fail
     obtain⟨W5,hW5⟩:∃x,x=w5:=⟨_,rfl⟩
     subst hW5
     go_loopw [16] (fun t16 wr=>∃i:Nat,i≤240+n∧t16=.int .i64 i∧Hid (ChI w wr i)) (fun t16 _=>300-(intOf t16).toNat)
     case atStart=>exact⟨0,by omega,rfl,HC0⟩
     case round =>
      obtain⟨i,hi,rfl,HC⟩:=hrel
      have hi0:(0:Int)≤i:=by omega
      obtain⟨xo,xn1,xn2,xn3,xs,xm,xq,xl1,xl2,xl3,h1,h2⟩:=HC.out.st
      have hA:=HC.out.a
      obtain⟨a0,a1,a2,a3,a4,a5⟩:=kAx hA
      obtain⟨x0,x1,x2,x3,x4,x5⟩:=kAx h1
      rcases Nat.lt_or_ge i (240+n) with hlt | hge
      ·have hltI:(i:Int)<240+n:=by omega
       by_cases hpn:i % 2=0
       ·have hpar:(i:Int) % 2=0:=by omega
        have HCN:=Lib.hid (HC.out.not hpn h1 h2)
        have hal:Upto [] wr (wr.alloc (.cells #[.int .i64 xo,.slice xn1 xn2 xn3,.int .i64 xs,.int .i64 xm,.int .i64 xq,.slice xl1 xl2 xl3] 25)):=(Upto.refl [] wr).alloc _
        have hb2:=hal.at h1 (by simp)
        obtain⟨y0,y1,y2,y3,y4,y5⟩:=kAx hb2
        obtain⟨yf0,yf1,yf2,yf3,yf4,yf5⟩:=kDk hb2
        clear h1 h2 hA hal hb2 hpn
        go_wp2_with fail
        go_roundw
        case rel=>exact⟨i+1,by omega,by go_num,HCN⟩
        case measure=>simp [intOf];omega
       ·have hpar:(i:Int) % 2=1:=by omega
        have HCN:=Lib.hid (HC.out.and hpn h1 h2)
        have hal:Upto [] wr (wr.alloc (.cells #[.int .i64 4,.slice (some ⟨w.heap.size,0,none⟩) 2 2,.int .i64 0,.int .i64 0,.int .i64 0,.slice none 0 0,.int .i64 xo,.slice xn1 xn2 xn3,.int .i64 xs,.int .i64 xm,.int .i64 xq,.slice xl1 xl2 xl3] 25)):=(Upto.refl [] wr).alloc _
        have hb2:=hal.at h1 (by simp)
        obtain⟨y0,y1,y2,y3,y4,y5⟩:=kAx hb2
        obtain⟨yf0,yf1,yf2,yf3,yf4,yf5⟩:=kDk hb2
        clear h1 h2 hA hal hb2 hpn
        go_wp2_with fail
        go_roundw
        case rel=>exact⟨i+1,by omega,by go_num,HCN⟩
        case measure=>simp [intOf];omega
      ·have hgeI:¬(i:Int)<240+n:=by omega
       have HIE:=Lib.hid (show i=240+n by omega)
       have HSZ:Hid (kCz (chN i)≤10000000):=Lib.hid (by have:=chN_size i;omega)
       have HNC:=Lib.hid h2
       have HDP:Hid (∀(u:World) v (P:Nat→Prop),NdV u P (chN i) v→Calls Tryz.prog 19 #[v] u fun e w'=>e=.returned (.int .i64 ((i:Int)+1))∧Upto [] u w'):=Lib.hid (fun u v P hv=>by
        have h:=deep_calls _ (chN i) (Nat.le_refl _) HSZ.out v u P hv
        rw [chN_depth] at h
        exact h)
       have HPN:=Lib.hid (fun (u:World) v (P:Nat→Prop) (hu:Upto [] w u) (h:NdV u P (chN i) v)=>pnode_calls (chN i) v u P h HSZ.out (chN_in i) (HEE.out u hu))
       have HRN:=Lib.hid (fun (u:World) v (P:Nat→Prop) (h:NdV u P (chN i) v)=>rnode_calls (chN i) v u P h HSZ.out (chN_in i))
       have HKN:=Lib.hid (fun (u:World) (hu:Upto [] w u)=>kTw u (HEE.out u hu))
       clear h1 h2 hA hge a0 a1 a2 a3 a4 a5
       rcases Nat.lt_or_ge n 16 with hn16 | hn16
       ·have hii:i≤255:=by omega
        have c1:¬(256:Int)<(i:Int)+1:=by omega
        have HNO:=chN_node i hii
        rw [HNO] at HPN HRN
        clear HNO
        have HRD:=Lib.hid (chN_read i hii)
        have HLE:=Lib.hid (chN_len i (by omega))
        have HGR:Hid (kIz (chN i)=0):=Lib.hid (by rw [chN_great i (by omega),if_neg (by omega)])
        obtain⟨S,hS⟩:∃S,jn (prT true (chN i))=S:=⟨_,rfl⟩
        rw [hS] at HPN HRN HRD HLE
        have HPA:Hid (∀u,Upto [] w u→Calls Tryz.prog 22 #[.string ⟨S.toArray⟩] u fun e w'=>∃v,e=.returned (.tuple #[v,.agg #[.int .i64 0,.int .i64 0],.int .i64 0])∧NdV w' (New u) (chN i) v∧Upto [] u w'):=Lib.hid (fun u hu=>by
         have h:=parseFormula_calls S (by have:=HLE.out;omega) u (HEE.out u hu).1 (HEE.out u hu).2.1
         rw [HRD.out] at h
         exact h)
        clear hS HRD HLE hii
        unfold pairV at HPN HRN
        simp only at HPN HRN
        clear hn16
        go_wp2_with fail
        refine (of_calls _ (chN i) (Nat.le_refl _) HSZ.out (chN_big i) _ _ wr HNC.out).mono ?_
        rintro e w3 ⟨v3,rfl,hn3,hu3⟩
        have HN3:=Lib.hid hn3
        have HC3:=Lib.hid (HC.out.ext hu3)
        obtain⟨yo,yn1,yn2,yn3,ys,ym,yq,yl1,yl2,yl3,rfl⟩:=hn3.six
        clear hn3 hu3 x0 x1 x2 x3 x4 x5
        go_wp2_with fail
        refine (HPN.out _ _ _ HC3.out.old HN3.out).mono ?_
        rintro e w4 ⟨rfl,hu4⟩
        have HC4:=Lib.hid (HC3.out.ext hu4)
        clear hu4
        obtain⟨zo,zn1,zn2,zn3,zs,zm,zq,zl1,zl2,zl3,h1,h2⟩:=HC4.out.st
        have HN4:=Lib.hid h2
        obtain⟨zk0,zk1,zk2,zk3,zk4,zk5⟩:=kAx h1
        clear h1 h2
        go_wp2_with fail
        refine (HRN.out _ _ _ HN4.out).mono ?_
        rintro e w6 ⟨rfl,hu6⟩
        have HC6:=Lib.hid (HC4.out.ext hu6)
        clear hu6 zk0 zk1 zk2 zk3 zk4 zk5
        obtain⟨po,pn1,pn2,pn3,ps,pm,pq,pl1,pl2,pl3,h1,h2⟩:=HC6.out.st
        have HN6:=Lib.hid h2
        obtain⟨pk0,pk1,pk2,pk3,pk4,pk5⟩:=kAx h1
        clear h1 h2
        go_wp2_with fail
        refine (HDP.out _ _ _ HN6.out).mono ?_
        rintro e w7 ⟨rfl,hu7⟩
        have HC7:=Lib.hid (HC6.out.ext hu7)
        clear hu7 pk0 pk1 pk2 pk3 pk4 pk5
        go_wp2_with fail
        refine (HPA.out _ HC7.out.old).mono ?_
        rintro e w8 ⟨v8,rfl,hv8,hu8⟩
        have HV8:=Lib.hid hv8
        have HC8:=Lib.hid (HC7.out.ext hu8)
        obtain⟨po,pn1,pn2,pn3,ps,pm,pq,pl1,pl2,pl3,rfl⟩:=hv8.six
        clear hv8 hu8
        go_wp2_with fail
        generalize hWB:((w8.alloc (.cells #[.int .i64 po,.slice pn1 pn2 pn3,.int .i64 ps,.int .i64 pm,.int .i64 pq,.slice pl1 pl2 pl3] 34)).alloc (.cells #[.int .i64 0,.int .i64 0] 36))=WB
        have hub:Upto [] w8 WB:=by rw [←hWB];exact ((Upto.refl [] w8).alloc _).alloc _
        have hx:WB.heap[w8.heap.size]?=some (.cells #[.int .i64 po,.slice pn1 pn2 pn3,.int .i64 ps,.int .i64 pm,.int .i64 pq,.slice pl1 pl2 pl3] 34 (0,0)):=by rw [←hWB];exact kCx (kAq w8 _) _
        have HCB:=Lib.hid (HC8.out.ext hub)
        have HVB:=Lib.hid (HV8.out.ext hub)
        clear hWB hub
        generalize w8.heap.size=G at *
        obtain⟨qo,qn1,qn2,qn3,qs,qm,qq,ql1,ql2,ql3,hf,hfn⟩:=HCB.out.st
        have HFN:=Lib.hid hfn
        have g0:∀u:Ext WB,u.w.cell? ⟨G,0,none⟩=some (.int .i64 po):=fun u=>u.cell (kAz hx 0)
        have g1:∀u:Ext WB,u.w.cell? ⟨G,1,none⟩=some (.slice pn1 pn2 pn3):=fun u=>u.cell (kAz hx 1)
        have g2:∀u:Ext WB,u.w.cell? ⟨G,2,none⟩=some (.int .i64 ps):=fun u=>u.cell (kAz hx 2)
        have g3:∀u:Ext WB,u.w.cell? ⟨G,3,none⟩=some (.int .i64 pm):=fun u=>u.cell (kAz hx 3)
        have g4:∀u:Ext WB,u.w.cell? ⟨G,4,none⟩=some (.int .i64 pq):=fun u=>u.cell (kAz hx 4)
        have g5:∀u:Ext WB,u.w.cell? ⟨G,5,none⟩=some (.slice pl1 pl2 pl3):=fun u=>u.cell (kAz hx 5)
        have f0:∀u:Ext WB,u.w.cell? ⟨w.heap.size+1+1,0,none⟩=some (.int .i64 qo):=fun u=>u.cell (kAz hf 0)
        have f1:∀u:Ext WB,u.w.cell? ⟨w.heap.size+1+1,1,none⟩=some (.slice qn1 qn2 qn3):=fun u=>u.cell (kAz hf 1)
        have f2:∀u:Ext WB,u.w.cell? ⟨w.heap.size+1+1,2,none⟩=some (.int .i64 qs):=fun u=>u.cell (kAz hf 2)
        have f3:∀u:Ext WB,u.w.cell? ⟨w.heap.size+1+1,3,none⟩=some (.int .i64 qm):=fun u=>u.cell (kAz hf 3)
        have f4:∀u:Ext WB,u.w.cell? ⟨w.heap.size+1+1,4,none⟩=some (.int .i64 qq):=fun u=>u.cell (kAz hf 4)
        have f5:∀u:Ext WB,u.w.cell? ⟨w.heap.size+1+1,5,none⟩=some (.slice ql1 ql2 ql3):=fun u=>u.cell (kAz hf 5)
        have HOF:Hid (∀u,Upto [] WB u→Calls Tryz.prog 46 #[.agg #[.int .i64 qo,.slice qn1 qn2 qn3,.int .i64 qs,.int .i64 qm,.int .i64 qq,.slice ql1 ql2 ql3]] u (BkPost u (chN i))):=Lib.hid (fun u hu=>of_calls _ (chN i) (Nat.le_refl _) HSZ.out (chN_big i) _ _ u (HFN.out.ext hu))
        have HCS:Hid (∀u (Q:Nat→Prop) v,Upto [] WB u→NdV u Q (chN i) v→Calls Tryz.prog 28 #[.agg #[.int .i64 po,.slice pn1 pn2 pn3,.int .i64 ps,.int .i64 pm,.int .i64 pq,.slice pl1 pl2 pl3],v] u fun e w'=>e=.returned (.bool true)∧Upto [] u w'):=Lib.hid (fun u Q v hu hv=>equal_to (chN_ok i) HGR.out (HVB.out.ext hu) hv)
        clear hx hf hfn
        refine kFx [5,6,9] [] [0,1,2,3,4,5,6,7,8,9,10,11] (by kernel_rfl) (by kernel_rfl) ?_
        iterate 5 (refine kCq rfl rfl rfl rfl rfl ?_;intro K' hK';go_big_quiet_op;go_big_quiet_on)
        refine seg_callO (Y:=(Int×Option Addr×Nat×Nat)×Int×Int×Int×Option Addr×Nat×Nat) (fun y=>.agg #[.int .i64 y.1.1,.slice y.1.2.1 y.1.2.2.1 y.1.2.2.2,.int .i64 y.2.1,.int .i64 y.2.2.1,.int .i64 y.2.2.2.1,.slice y.2.2.2.2.1 y.2.2.2.2.2.1 y.2.2.2.2.2.2]) (fun y u=>NdV u AnyB (chN i) (.agg #[.int .i64 y.1.1,.slice y.1.2.1 y.1.2.2.1 y.1.2.2.2,.int .i64 y.2.1,.int .i64 y.2.2.1,.int .i64 y.2.2.2.1,.slice y.2.2.2.2.1 y.2.2.2.2.2.1 y.2.2.2.2.2.2])) (fun _=>[]) rfl rfl rfl rfl (fun _ _ _ h hu=>h.ext hu) (fun _=>List.nodup_nil) (fun w=>by go_simp) (fun w' hu hd=>(HOF.out w' hu).mono fun e w2 ⟨v,h1,h2,h3⟩=>by
         obtain⟨ro,rn1,rn2,rn3,rs,rm,rq,rl1,rl2,rl3,rfl⟩:=h2.six
         exact⟨((ro,rn1,rn2,rn3),rs,rm,rq,rl1,rl2,rl3),h1,h3,h2.mono (fun b hb _=>trivial),fun b hb=>by cases hb⟩) ?_
        rintro⟨⟨ro,rn1,rn2,rn3⟩,rs,rm,rq,rl1,rl2,rl3⟩
        simp only [Act.put,List.setIfInBounds_toArray,List.set_cons_zero,List.set_cons_succ]
        refine kMw rfl rfl rfl rfl (fun w=>by go_simp) (fun w hu hd=>HCS.out w _ _ hu (hd.1 (by kernel_rfl))) ?_
        simp only [Act.put,List.setIfInBounds_toArray,List.set_cons_zero,List.set_cons_succ]
        iterate 2 (refine kCq rfl rfl rfl rfl rfl ?_;intro K' hK';go_big_quiet_op;go_big_quiet_on)
        refine kMw rfl rfl rfl rfl (fun w=>by go_simp) (fun w' hu hd=>HKN.out w' (HCB.out.old.trans_ext hu)) ?_
        simp only [Act.put,List.setIfInBounds_toArray,List.set_cons_zero,List.set_cons_succ]
        iterate 2 (refine kCq rfl rfl rfl rfl rfl ?_;intro K' hK';go_big_quiet_op;go_big_quiet_on)
        intro w12 hg
        have HU12:=Lib.hid (HCB.out.old.trans_ext hg.up)
        clear hg g0 f0 g1 f1 g2 f2 g3 f3 g4 f4 g5 f5
        go_wp2_with fail
        go_ret
        exact⟨rfl,HU12.out⟩
       ·have c1:(256:Int)<(i:Int)+1:=by omega
        have HNO:=chN_node_bad i (by omega) (by omega)
        rw [HNO] at HPN HRN
        clear HNO
        unfold pairV at HPN HRN
        simp only at HPN HRN
        clear hn16
        go_wp2_with fail
        refine (of_calls _ (chN i) (Nat.le_refl _) HSZ.out (chN_big i) _ _ wr HNC.out).mono ?_
        rintro e w3 ⟨v3,rfl,hn3,hu3⟩
        have HN3:=Lib.hid hn3
        have HC3:=Lib.hid (HC.out.ext hu3)
        obtain⟨yo,yn1,yn2,yn3,ys,ym,yq,yl1,yl2,yl3,rfl⟩:=hn3.six
        clear hn3 hu3 x0 x1 x2 x3 x4 x5
        go_wp2_with fail
        refine (HPN.out _ _ _ HC3.out.old HN3.out).mono ?_
        rintro e w4 ⟨rfl,hu4⟩
        have HC4:=Lib.hid (HC3.out.ext hu4)
        clear hu4
        obtain⟨zo,zn1,zn2,zn3,zs,zm,zq,zl1,zl2,zl3,h1,h2⟩:=HC4.out.st
        have HN4:=Lib.hid h2
        obtain⟨zk0,zk1,zk2,zk3,zk4,zk5⟩:=kAx h1
        clear h1 h2
        go_wp2_with fail
        refine (HRN.out _ _ _ HN4.out).mono ?_
        rintro e w6 ⟨rfl,hu6⟩
        have HC6:=Lib.hid (HC4.out.ext hu6)
        clear hu6 zk0 zk1 zk2 zk3 zk4 zk5
        obtain⟨po,pn1,pn2,pn3,ps,pm,pq,pl1,pl2,pl3,h1,h2⟩:=HC6.out.st
        have HN6:=Lib.hid h2
        obtain⟨pk0,pk1,pk2,pk3,pk4,pk5⟩:=kAx h1
        clear h1 h2
        go_wp2_with fail
        refine (HDP.out _ _ _ HN6.out).mono ?_
        rintro e w7 ⟨rfl,hu7⟩
        have HC7:=Lib.hid (HC6.out.ext hu7)
        clear hu7 pk0 pk1 pk2 pk3 pk4 pk5
        go_wp2_with fail
        refine (HKN.out _ HC7.out.old).mono ?_
        rintro e w8 ⟨rfl,hu8⟩
        have HU8:=Lib.hid (HC7.out.old.trans_ext hu8)
        clear hu8
        go_wp2_with fail
        go_ret
        exact⟨rfl,HU8.out⟩
end Go.Proofs.YtkhbpebpljdifaaGreatDoor
