/- Merged texts. -/
import Derived.Test.YtkhbpebpljdifaaGreatDoorMPrnA
set_option maxRecDepth 100000
set_option maxHeartbeats 25600000
namespace Go.Proofs.YtkhbpebpljdifaaGreatDoor
open Go.RowKit Go.PL Go.Maps
theorem pnode_calls (nd:Nd) (v:Value) (w:World) (P:Nat→Prop) (h:NdV w P nd v) (hk:kCz nd≤10000000) (hin:inN 10000000 nd) (hE:Env w∧SEnv w∧FEnv w∧PEnv w):Calls Tryz.prog 45 #[v] w fun e w'=>e=.returned (pairV (nodeF nd))∧Upto [] w w':=by
 have HCQ:=Lib.hid (fun u (hu:Upto [] w u)=>checkf_calls nd v u P (h.ext hu) hk hin (hE.1.ext hu) (hE.2.2.1.ext hu))
 have HN:=Lib.hid h
 obtain⟨o1,a1,a2,a3,s1,n1,m1,l1,l2,l3,rfl⟩:=h.six
 have hu1:Upto [] w (w.alloc (.cells #[.int .i64 o1,.slice a1 a2 a3,.int .i64 s1,.int .i64 n1,.int .i64 m1,.slice l1 l2 l3] 34)):=(Upto.refl [] w).alloc _
 have HU1:=Lib.hid hu1
 have hb:=kAq w (.cells #[.int .i64 o1,.slice a1 a2 a3,.int .i64 s1,.int .i64 n1,.int .i64 m1,.slice l1 l2 l3] 34)
 have HB1:=Lib.hid hb
 obtain⟨y0,y1,y2,y3,y4,y5⟩:=kAx hb
 by_cases hR:kSq kBj nd=0
 case neg =>
  obtain⟨R,hR2⟩:∃R,kSq kBj nd=R:=⟨_,rfl⟩
  have HPF:Hid (nodeF nd=([],R)):=Lib.hid (by unfold nodeF;rw [if_neg hR,hR2])
  rw [hR2] at HCQ hR
  have r1:((R:Int)==0)=false:=by rw [beq_eq_false_iff_ne];omega
  have r2:((R:Int) != 0)=true:=by rw [bne,r1];rfl
  clear hR hR2 hE hin hk hu1 hb h
  go_enter Tryz.func45,Tryz.ntmps45
  go_wp2_with fail
  refine (HCQ.out _ HU1.out).mono ?_
  rintro e w2 ⟨rfl,hu2⟩
  have HU2:=Lib.hid (HU1.out.trans_ext hu2)
  clear hu2
  go_wp2_with fail
  go_ret2
  exact⟨by rw [HPF.out];rfl,HU2.out⟩
 case pos =>
  obtain⟨hob,hg⟩:=check_ok (fun x=>kXz) hR
  have HPF:Hid (nodeF nd=cutP (jn (prT true nd))):=Lib.hid (by unfold nodeF;rw [if_pos hR])
  rw [hR] at HCQ
  have HEU:=Lib.hid (fun u (hu:Upto [] w u)=>(⟨hE.2.2.2.ext hu,hE.2.1.upto hu (by simp)⟩:PEnv u∧SEnv u))
  have HOB:=Lib.hid hob
  have HLQ:Hid ((jn (prT true nd)).length≤2000000000):=Lib.hid (by have:=jn_len hob true;omega)
  have HLT:Hid ((prT true nd).length≤2000000000):=Lib.hid (by have h1:=len_wts (prT true nd);have h2:=pr_le hob true;omega)
  clear hR hE hin hk hu1 hb h hob hg
  go_enter Tryz.func45,Tryz.ntmps45
  go_wp2_with fail
  refine (HCQ.out _ HU1.out).mono ?_
  rintro e w2 ⟨rfl,hu2⟩
  have HU2:=Lib.hid (HU1.out.trans_ext hu2)
  have hb2:=hu2.at HB1.out (by simp)
  have K3:=Lib.hid (Kp.new hb2)
  have HW3:=Lib.hid (WrI.new w2)
  have hb3:=K3.out.1
  obtain⟨z0,z1,z2,z3,z4,z5⟩:=kAx hb3
  clear hu2 hb2 hb3
  go_wp2_with fail
  refine (node_calls _ nd (Nat.le_refl _) HOB.out w2 w2.heap.size P _ (fun u hu=>HEU.out u (HU2.out.trans_ext hu)) (patom_calls (fun u hu=>(HEU.out u (HU2.out.trans_ext hu)).1)) (HN.out.ext HU2.out) true _ _ HW3.out (by have h2:=HLT.out;simp only [List.length_nil];omega)).mono ?_
  rintro e w5 ⟨rfl,hw5,hk5⟩
  rw [List.nil_append] at hw5
  have HW5:=Lib.hid hw5
  clear hw5 hk5
  go_wp2_with fail
  refine (text_calls w2 w5 w2.heap.size _ HW5.out (by rw [jn_txs];have h1:=HLQ.out;omega) (by rw [txs_len];have h2:=HLT.out;omega)).mono ?_
  rintro e w6 ⟨rfl,hu6⟩
  rw [jn_txs,←HPF.out]
  obtain⟨r,hr⟩:∃r,nodeF nd=r:=⟨_,rfl⟩
  rw [hr]
  have HRR:=Lib.hid hr
  clear hr
  have HU6:=Lib.hid ((HU2.out.trans_ext HW5.out.up).trans_ext hu6)
  clear hu6
  unfold pairV
  go_wp2_with fail
  go_ret2
  exact⟨by rw [HRR.out];rfl,HU6.out⟩
def RtP (w0:World) (nd:Nd) (v:Value):Prop:=∀(last:Bool) u,Upto [] w0 u→Calls Tryz.prog 73 #[v,.bool last] u fun e w'=>e=.returned (.string ⟨(jn (prT last nd)).toArray⟩)∧Upto [] u w'
theorem ratom_calls {w0:World} {P:Nat→Prop} (op so n m:Int) (names:List (List UInt8)) (l:List Nd) (v:Value) (hok:okF (.mk op names so n m l)) (hop:op<11) (h:NdV w0 P (.mk op names so n m l) v):∀u,Upto [] w0 u→Calls Tryz.prog 111 #[v] u fun e w'=>e=.returned (.string ⟨(jn (kIk op names n m)).toArray⟩)∧Upto [] u w':=by
 intro u hu
 obtain⟨a1,c1,a2,c2,rfl,hs,-⟩:=(h.ext hu).open
 unfold okF at hok
 obtain⟨hnm,hc,-⟩:=hok
 have hx16:∀x∈names,x.length≤16:=fun x hx=>kUx (hnm x hx)
 have cell:∀j x,names[j]?=some x→∃g o,a1=some ⟨g,o,none⟩∧u.cell? ⟨g,o+j,none⟩=some (.string ⟨x.toArray⟩):=fun j x hj=>by
  obtain⟨a,c,he,hg⟩:=hs.get
  simp only [Value.slice.injEq] at he
  obtain⟨rfl,-,rfl⟩:=he
  exact hg j _ (by rw [List.getElem?_map,hj];rfl)
 rcases hc with⟨h1,h2,h3,rfl,rfl,rfl⟩ | ⟨h1,h1',h2,h3,rfl,rfl,rfl⟩ | ⟨rfl,h2,h3,rfl,h4,h5,rfl⟩ | ⟨rfl,h2,h3,rfl,h4,h5,h6⟩ | ⟨rfl,h2,h3,rfl,rfl,rfl⟩ | ⟨rfl,h2,h2',h3,rfl,rfl,rfl⟩ | ⟨rfl,-⟩ | ⟨h1,h2,-⟩ | ⟨h1,h2,-⟩
 ·subst h2
  rcases h1 with rfl | rfl
  ·rw [atom_true]
   exact ratom_true _ _ _ _ _ _ _ _ _ u
  ·rw [atom_false]
   exact ratom_false _ _ _ _ _ _ _ _ _ u
 ·obtain⟨k,rfl⟩:=kUj (show 0≤op by omega)
  obtain⟨x,y,rfl⟩:=two_of h2
  obtain⟨g,o,rfl,d0⟩:=cell 0 x rfl
  obtain⟨g',o',he,d1⟩:=cell 1 y rfl
  simp only [Option.some.injEq,Addr.mk.injEq,and_true] at he
  obtain⟨rfl,rfl⟩:=he
  rw [atom_two (by omega) (by omega)]
  exact ratom_two _ _ _ k (by omega) (by omega) g o _ _ _ _ _ x y (by have:=hx16 x (by simp);omega) (by have:=hx16 y (by simp);omega) u d0 d1 (by simp)
 ·obtain⟨q,rfl⟩:=kUj h4
  obtain⟨x,rfl⟩:=one_of h2
  obtain⟨g,o,rfl,d0⟩:=cell 0 x rfl
  rw [atom_is]
  exact ratom_is _ _ q (by omega) g o _ _ _ _ _ x (by have:=hx16 x (by simp);omega) u d0 (by simp)
 ·obtain⟨q,rfl⟩:=kUj h4
  obtain⟨p,rfl⟩:=kUj (show 0≤m by omega)
  obtain⟨x,rfl⟩:=one_of h2
  obtain⟨g,o,rfl,d0⟩:=cell 0 x rfl
  rw [atom_size]
  exact ratom_size _ q p (by omega) (by omega) g o _ _ _ _ _ x (by have:=hx16 x (by simp);omega) u d0 (by simp)
 ·obtain⟨x,rfl⟩:=one_of h2
  obtain⟨g,o,rfl,d0⟩:=cell 0 x rfl
  rw [atom_one]
  exact ratom_one _ _ _ g o _ _ _ _ _ x (by have:=hx16 x (by simp);omega) u d0 (by simp)
 ·obtain⟨f,ys,rfl⟩:=cons_of h2
  obtain⟨g,o,rfl,d0⟩:=cell 0 f rfl
  rw [atom_call]
  refine ratom_call _ _ _ g o _ _ _ _ f ys (f::ys) rfl (by omega) hx16 u (fun i x hi=>?_)
  obtain⟨g',o',he,d1⟩:=cell i x hi
  simp only [Option.some.injEq,Addr.mk.injEq,and_true] at he
  obtain⟨rfl,rfl⟩:=he
  exact d1
 ·omega
 ·omega
 ·omega
theorem binds_calls (k:Nat) (h16:16≤k) (h18:k<18) (so nn mm:Int) (g o b2 b3:Nat) (d1:Option Addr) (d2 d3:Nat) (x:List UInt8) (hlx:x.length≤1000000000) (w:World) (c1:w.cell? ⟨g,o,none⟩=some (.string ⟨x.toArray⟩)) (hb2:1≤b2):Calls Tryz.prog 113 #[.agg #[.int .i64 (k:Int),.slice (some ⟨g,o,none⟩) b2 b3,.int .i64 so,.int .i64 nn,.int .i64 mm,.slice d1 d2 d3]] w fun e w'=>e=.returned (.string ⟨(quW (k:Int)++[32]++kOj so++[32]++x++[32,58]).toArray⟩)∧Upto [] w w':=by
 have hb2I:(0:Int)<b2:=by omega
 have hwl:=wordsF_len k
 have HWD:=Lib.hid (fun u=>word_calls k (by omega) u)
 rw [refW_word (by omega) (by omega),←quW_word ⟨h16,h18⟩] at HWD
 rw [←quW_word ⟨h16,h18⟩] at hwl
 have HSO:=Lib.hid (fun u=>sorted_calls so u)
 have hsl:(kOj so).length≤10:=by
  unfold kOj
  split
  ·decide
  split
  ·decide
  split
  ·decide
  split
  ·decide
  ·decide
 have hu1:Upto [] w (w.alloc (.cells #[.int .i64 (k:Int),.slice (some ⟨g,o,none⟩) b2 b3,.int .i64 so,.int .i64 nn,.int .i64 mm,.slice d1 d2 d3] 25)):=(Upto.refl [] w).alloc _
 have HU:=Lib.hid hu1
 replace c1:=kAw hu1 c1
 have hb:=kAq w (.cells #[.int .i64 (k:Int),.slice (some ⟨g,o,none⟩) b2 b3,.int .i64 so,.int .i64 nn,.int .i64 mm,.slice d1 d2 d3] 25)
 obtain⟨y0,y1,y2⟩:=cells3 hb
 have e0:=fun u:Ext (w.alloc (.cells #[.int .i64 (k:Int),.slice (some ⟨g,o,none⟩) b2 b3,.int .i64 so,.int .i64 nn,.int .i64 mm,.slice d1 d2 d3] 25))=>u.cell y0
 have e1:=fun u:Ext (w.alloc (.cells #[.int .i64 (k:Int),.slice (some ⟨g,o,none⟩) b2 b3,.int .i64 so,.int .i64 nn,.int .i64 mm,.slice d1 d2 d3] 25))=>u.cell y1
 have e2:=fun u:Ext (w.alloc (.cells #[.int .i64 (k:Int),.slice (some ⟨g,o,none⟩) b2 b3,.int .i64 so,.int .i64 nn,.int .i64 mm,.slice d1 d2 d3] 25))=>u.cell y2
 have ex:=fun u:Ext (w.alloc (.cells #[.int .i64 (k:Int),.slice (some ⟨g,o,none⟩) b2 b3,.int .i64 so,.int .i64 nn,.int .i64 mm,.slice d1 d2 d3] 25))=>u.cell c1
 generalize quW (k:Int)=W at *
 generalize kOj so=S at *
 have s0:(ByteArray.mk x.toArray).size=x.length:=rfl
 have sm0:W.length+1≤9223372036854775807:=by omega
 have sm1:W.length+1+S.length≤9223372036854775807:=by omega
 have sm2:W.length+1+S.length+1≤9223372036854775807:=by omega
 have sm3:W.length+1+S.length+1+x.length≤9223372036854775807:=by omega
 have sm4:W.length+1+S.length+1+x.length+2≤9223372036854775807:=by omega
 clear hu1 hb hb2 h16 h18 hlx hwl hsl
 go_enter Tryz.func113,Tryz.ntmps113
 go_wp2_with fail
 clear y0 y1 y2 c1
 refine kFx [2,6] [] [0,1,2,3,4,5,6,7,8,9,10,11,12,13,14,15] (by kernel_rfl) (by kernel_rfl) ?_
 iterate 2 (refine kCq rfl rfl rfl rfl rfl ?_;intro K' hK';go_big_quiet_op;go_big_quiet_on)
 refine kMw rfl rfl rfl rfl (fun w=>by go_simp) (fun w' hu hd=>HWD.out w') ?_
 simp only [Act.put,List.setIfInBounds_toArray,List.set_cons_zero,List.set_cons_succ]
 iterate 3 (refine kCq rfl rfl rfl rfl rfl ?_;intro K' hK';go_big_quiet_op;go_big_quiet_on)
 refine kMw rfl rfl rfl rfl (fun w=>by go_simp) (fun w' hu hd=>HSO.out w') ?_
 simp only [Act.put,List.setIfInBounds_toArray,List.set_cons_zero,List.set_cons_succ]
 iterate 9 (refine kCq rfl rfl rfl rfl rfl ?_;intro K' hK';go_big_quiet_op;go_big_quiet_on)
 intro w9 hg
 have HW9:=Lib.hid (HU.out.trans_ext hg.up)
 clear hg e0 e1 e2 ex
 go_wp2_with fail
 go_ret
 exact⟨congrArg (fun z=>Ending.returned (.string z)) (show ByteArray.mk W.toArray++ByteArray.mk [32].toArray++ByteArray.mk S.toArray++ByteArray.mk [32].toArray++ByteArray.mk x.toArray++ByteArray.mk [32,58].toArray=⟨(W++[32]++S++[32]++x++[32,58]).toArray⟩ by simp only [ByteArray.mk_append_mk]),HW9.out⟩
theorem oper_need (op:Int) (place:Nat) (_x:Nd) (xo:Int) (xn1:Option Addr) (xn2 xn3:Nat) (xs xm xq:Int) (xl1:Option Addr) (xl2 xl3:Nat) (u:World) (F:Bool→List UInt8) (hl:(F true).length≤1000000000000) (last:Bool) (hn:∀w,Calls Tryz.prog 137 #[.int .i64 op,.int .i64 (place:Int),.agg #[.int .i64 xo,.slice xn1 xn2 xn3,.int .i64 xs,.int .i64 xm,.int .i64 xq,.slice xl1 xl2 xl3]] w fun e w'=>e=.returned (.bool true)∧Upto [] w w') (ht:∀last w,Upto [] u w→Calls Tryz.prog 73 #[.agg #[.int .i64 xo,.slice xn1 xn2 xn3,.int .i64 xs,.int .i64 xm,.int .i64 xq,.slice xl1 xl2 xl3],.bool last] w fun e w'=>e=.returned (.string ⟨(F last).toArray⟩)∧Upto [] w w'):Calls Tryz.prog 112 #[.int .i64 op,.int .i64 (place:Int),.agg #[.int .i64 xo,.slice xn1 xn2 xn3,.int .i64 xs,.int .i64 xm,.int .i64 xq,.slice xl1 xl2 xl3],.bool last] u fun e w'=>e=.returned (.string ⟨([40,32]++F true++[32,41]).toArray⟩)∧Upto [] u w':=by
 have HU:Hid (Upto [] u (u.alloc (.cells #[.int .i64 xo,.slice xn1 xn2 xn3,.int .i64 xs,.int .i64 xm,.int .i64 xq,.slice xl1 xl2 xl3] 25))):=Lib.hid ((Upto.refl [] u).alloc _)
 have HB:=Lib.hid (kAq u (.cells #[.int .i64 xo,.slice xn1 xn2 xn3,.int .i64 xs,.int .i64 xm,.int .i64 xq,.slice xl1 xl2 xl3] 25))
 have HN:=Lib.hid hn
 have HT:=Lib.hid ht
 have sm0:2+(F true).length≤9223372036854775807:=by omega
 have sm1:2+(F true).length+2≤9223372036854775807:=by omega
 clear hn ht hl
 generalize hF:F true=T at *
 go_enter Tryz.func112,Tryz.ntmps112
 go_wp2_with fail
 refine (HN.out _).mono ?_
 rintro e w2 ⟨rfl,hu2⟩
 have HU2:=Lib.hid (HU.out.trans_ext hu2)
 have hb2:=hu2.at HB.out (by simp)
 obtain⟨z0,z1,z2,z3,z4,z5⟩:=kAx hb2
 clear hu2 hb2
 go_wp2_with fail
 refine (HT.out true _ HU2.out).mono ?_
 rw [hF]
 rintro e w3 ⟨rfl,hu3⟩
 have HU3:=Lib.hid (HU2.out.trans_ext hu3)
 clear hu3
 go_wp2_with fail
 go_ret
 exact⟨congrArg (fun z=>Ending.returned (.string z)) (show ByteArray.mk [40,32].toArray++ByteArray.mk T.toArray++ByteArray.mk [32,41].toArray=⟨([40,32]++T++[32,41]).toArray⟩ by simp only [ByteArray.mk_append_mk]),HU3.out⟩
theorem oper_qu (op:Int) (place:Nat) (_x:Nd) (xo:Int) (xn1:Option Addr) (xn2 xn3:Nat) (xs xm xq:Int) (xl1:Option Addr) (xl2 xl3:Nat) (u:World) (F:Bool→List UInt8) (hl:(F true).length≤1000000000000) (h:15<xo) (hn:∀w,Calls Tryz.prog 137 #[.int .i64 op,.int .i64 (place:Int),.agg #[.int .i64 xo,.slice xn1 xn2 xn3,.int .i64 xs,.int .i64 xm,.int .i64 xq,.slice xl1 xl2 xl3]] w fun e w'=>e=.returned (.bool false)∧Upto [] w w') (ht:∀last w,Upto [] u w→Calls Tryz.prog 73 #[.agg #[.int .i64 xo,.slice xn1 xn2 xn3,.int .i64 xs,.int .i64 xm,.int .i64 xq,.slice xl1 xl2 xl3],.bool last] w fun e w'=>e=.returned (.string ⟨(F last).toArray⟩)∧Upto [] w w'):Calls Tryz.prog 112 #[.int .i64 op,.int .i64 (place:Int),.agg #[.int .i64 xo,.slice xn1 xn2 xn3,.int .i64 xs,.int .i64 xm,.int .i64 xq,.slice xl1 xl2 xl3],.bool false] u fun e w'=>e=.returned (.string ⟨([40,32]++F true++[32,41]).toArray⟩)∧Upto [] u w':=by
 have HU:Hid (Upto [] u (u.alloc (.cells #[.int .i64 xo,.slice xn1 xn2 xn3,.int .i64 xs,.int .i64 xm,.int .i64 xq,.slice xl1 xl2 xl3] 25))):=Lib.hid ((Upto.refl [] u).alloc _)
 have HB:=Lib.hid (kAq u (.cells #[.int .i64 xo,.slice xn1 xn2 xn3,.int .i64 xs,.int .i64 xm,.int .i64 xq,.slice xl1 xl2 xl3] 25))
 have HN:=Lib.hid hn
 have HT:=Lib.hid ht
 have sm0:2+(F true).length≤9223372036854775807:=by omega
 have sm1:2+(F true).length+2≤9223372036854775807:=by omega
 clear hn ht hl
 generalize hF:F true=T at *
 go_enter Tryz.func112,Tryz.ntmps112
 go_wp2_with fail
 refine (HN.out _).mono ?_
 rintro e w2 ⟨rfl,hu2⟩
 have HU2:=Lib.hid (HU.out.trans_ext hu2)
 have hb2:=hu2.at HB.out (by simp)
 obtain⟨z0,z1,z2,z3,z4,z5⟩:=kAx hb2
 clear hu2 hb2
 go_wp2_with fail
 refine (HT.out true _ HU2.out).mono ?_
 rw [hF]
 rintro e w3 ⟨rfl,hu3⟩
 have HU3:=Lib.hid (HU2.out.trans_ext hu3)
 clear hu3
 go_wp2_with fail
 go_ret
 exact⟨congrArg (fun z=>Ending.returned (.string z)) (show ByteArray.mk [40,32].toArray++ByteArray.mk T.toArray++ByteArray.mk [32,41].toArray=⟨([40,32]++T++[32,41]).toArray⟩ by simp only [ByteArray.mk_append_mk]),HU3.out⟩
theorem oper_qu_last (op:Int) (place:Nat) (_x:Nd) (xo:Int) (xn1:Option Addr) (xn2 xn3:Nat) (xs xm xq:Int) (xl1:Option Addr) (xl2 xl3:Nat) (u:World) (F:Bool→List UInt8) (_hl:(F true).length≤1000000000000) (h:15<xo) (hn:∀w,Calls Tryz.prog 137 #[.int .i64 op,.int .i64 (place:Int),.agg #[.int .i64 xo,.slice xn1 xn2 xn3,.int .i64 xs,.int .i64 xm,.int .i64 xq,.slice xl1 xl2 xl3]] w fun e w'=>e=.returned (.bool false)∧Upto [] w w') (ht:∀last w,Upto [] u w→Calls Tryz.prog 73 #[.agg #[.int .i64 xo,.slice xn1 xn2 xn3,.int .i64 xs,.int .i64 xm,.int .i64 xq,.slice xl1 xl2 xl3],.bool last] w fun e w'=>e=.returned (.string ⟨(F last).toArray⟩)∧Upto [] w w'):Calls Tryz.prog 112 #[.int .i64 op,.int .i64 (place:Int),.agg #[.int .i64 xo,.slice xn1 xn2 xn3,.int .i64 xs,.int .i64 xm,.int .i64 xq,.slice xl1 xl2 xl3],.bool true] u fun e w'=>e=.returned (.string ⟨(F true).toArray⟩)∧Upto [] u w':=by
 have HU:Hid (Upto [] u (u.alloc (.cells #[.int .i64 xo,.slice xn1 xn2 xn3,.int .i64 xs,.int .i64 xm,.int .i64 xq,.slice xl1 xl2 xl3] 25))):=Lib.hid ((Upto.refl [] u).alloc _)
 have HB:=Lib.hid (kAq u (.cells #[.int .i64 xo,.slice xn1 xn2 xn3,.int .i64 xs,.int .i64 xm,.int .i64 xq,.slice xl1 xl2 xl3] 25))
 have HN:=Lib.hid hn
 have HT:=Lib.hid ht
 clear hn ht _hl
 go_enter Tryz.func112,Tryz.ntmps112
 go_wp2_with fail
 refine (HN.out _).mono ?_
 rintro e w2 ⟨rfl,hu2⟩
 have HU2:=Lib.hid (HU.out.trans_ext hu2)
 have hb2:=hu2.at HB.out (by simp)
 obtain⟨z0,z1,z2,z3,z4,z5⟩:=kAx hb2
 clear hu2 hb2
 go_wp2_with fail
 refine (HT.out true _ HU2.out).mono ?_
 rintro e w3 ⟨rfl,hu3⟩
 have HU3:=Lib.hid (HU2.out.trans_ext hu3)
 clear hu3
 go_wp2_with fail
 go_ret
 exact⟨rfl,HU3.out⟩
theorem oper_low (op:Int) (place:Nat) (_x:Nd) (xo:Int) (xn1:Option Addr) (xn2 xn3:Nat) (xs xm xq:Int) (xl1:Option Addr) (xl2 xl3:Nat) (u:World) (F:Bool→List UInt8) (_hl:(F true).length≤1000000000000) (last:Bool) (h:¬15<xo) (hn:∀w,Calls Tryz.prog 137 #[.int .i64 op,.int .i64 (place:Int),.agg #[.int .i64 xo,.slice xn1 xn2 xn3,.int .i64 xs,.int .i64 xm,.int .i64 xq,.slice xl1 xl2 xl3]] w fun e w'=>e=.returned (.bool false)∧Upto [] w w') (ht:∀last w,Upto [] u w→Calls Tryz.prog 73 #[.agg #[.int .i64 xo,.slice xn1 xn2 xn3,.int .i64 xs,.int .i64 xm,.int .i64 xq,.slice xl1 xl2 xl3],.bool last] w fun e w'=>e=.returned (.string ⟨(F last).toArray⟩)∧Upto [] w w'):Calls Tryz.prog 112 #[.int .i64 op,.int .i64 (place:Int),.agg #[.int .i64 xo,.slice xn1 xn2 xn3,.int .i64 xs,.int .i64 xm,.int .i64 xq,.slice xl1 xl2 xl3],.bool last] u fun e w'=>e=.returned (.string ⟨(F last).toArray⟩)∧Upto [] u w':=by
 have HU:Hid (Upto [] u (u.alloc (.cells #[.int .i64 xo,.slice xn1 xn2 xn3,.int .i64 xs,.int .i64 xm,.int .i64 xq,.slice xl1 xl2 xl3] 25))):=Lib.hid ((Upto.refl [] u).alloc _)
 have HB:=Lib.hid (kAq u (.cells #[.int .i64 xo,.slice xn1 xn2 xn3,.int .i64 xs,.int .i64 xm,.int .i64 xq,.slice xl1 xl2 xl3] 25))
 have HN:=Lib.hid hn
 have HT:=Lib.hid ht
 clear hn ht _hl
 go_enter Tryz.func112,Tryz.ntmps112
 go_wp2_with fail
 refine (HN.out _).mono ?_
 rintro e w2 ⟨rfl,hu2⟩
 have HU2:=Lib.hid (HU.out.trans_ext hu2)
 have hb2:=hu2.at HB.out (by simp)
 obtain⟨z0,z1,z2,z3,z4,z5⟩:=kAx hb2
 clear hu2 hb2
 go_wp2_with fail
 refine (HT.out last _ HU2.out).mono ?_
 rintro e w3 ⟨rfl,hu3⟩
 have HU3:=Lib.hid (HU2.out.trans_ext hu3)
 clear hu3
 go_wp2_with fail
 go_ret
 exact⟨rfl,HU3.out⟩
theorem oper_calls (op:Int) (h1:11≤op) (h2:op≤15) (place:Nat) (hp:place<2) (x:Nd) (xo:Int) (xn1:Option Addr) (xn2 xn3:Nat) (xs xm xq:Int) (xl1:Option Addr) (xl2 xl3:Nat) (hx:opF x=xo) (last:Bool) (u:World) (hl:(jn (prT true x)).length≤1000000000000) (ht:RtP u x (.agg #[.int .i64 xo,.slice xn1 xn2 xn3,.int .i64 xs,.int .i64 xm,.int .i64 xq,.slice xl1 xl2 xl3])):Calls Tryz.prog 112 #[.int .i64 op,.int .i64 (place:Int),.agg #[.int .i64 xo,.slice xn1 xn2 xn3,.int .i64 xs,.int .i64 xm,.int .i64 xq,.slice xl1 xl2 xl3],.bool last] u fun e w'=>e=.returned (.string ⟨(opJ op place x last).toArray⟩)∧Upto [] u w':=by
 have hn:=fun w=>needed_calls op h1 h2 place hp xo xs xm xq xn1 xn2 xn3 xl1 xl2 xl3 w
 rw [opJ_eq,hx]
 unfold parB
 cases hb:kMz op place xo with
 | true =>
  rw [hb] at hn
  simp only [Bool.true_or,if_true]
  exact oper_need op place x xo xn1 xn2 xn3 xs xm xq xl1 xl2 xl3 u (fun l=>jn (prT l x)) hl last hn ht
 | false =>
  rw [hb] at hn
  by_cases h15:15<xo
  ·cases last with
   | false =>
    rw [if_pos (by simpa using h15)]
    exact oper_qu op place x xo xn1 xn2 xn3 xs xm xq xl1 xl2 xl3 u (fun l=>jn (prT l x)) hl h15 hn ht
   | true =>
    rw [if_neg (by simp)]
    exact oper_qu_last op place x xo xn1 xn2 xn3 xs xm xq xl1 xl2 xl3 u (fun l=>jn (prT l x)) hl h15 hn ht
  ·rw [if_neg (by simp;omega)]
   exact oper_low op place x xo xn1 xn2 xn3 xs xm xq xl1 xl2 xl3 u (fun l=>jn (prT l x)) hl last h15 hn ht
theorem rtext_atom (op so nn mm:Int) (a1:Option Addr) (b2 b3:Nat) (a2:Option Addr) (d2 d3:Nat) (T:List UInt8) (last:Bool) (u:World) (h11:op<11) (ha:∀w,Upto [] u w→Calls Tryz.prog 111 #[.agg #[.int .i64 op,.slice a1 b2 b3,.int .i64 so,.int .i64 nn,.int .i64 mm,.slice a2 d2 d3]] w fun e w'=>e=.returned (.string ⟨T.toArray⟩)∧Upto [] w w'):Calls Tryz.prog 73 #[.agg #[.int .i64 op,.slice a1 b2 b3,.int .i64 so,.int .i64 nn,.int .i64 mm,.slice a2 d2 d3],.bool last] u fun e w'=>e=.returned (.string ⟨T.toArray⟩)∧Upto [] u w':=by
 have hu1:Upto [] u (u.alloc (.cells #[.int .i64 op,.slice a1 b2 b3,.int .i64 so,.int .i64 nn,.int .i64 mm,.slice a2 d2 d3] 25)):=(Upto.refl [] u).alloc _
 have HU:=Lib.hid hu1
 have hb:=kAq u (.cells #[.int .i64 op,.slice a1 b2 b3,.int .i64 so,.int .i64 nn,.int .i64 mm,.slice a2 d2 d3] 25)
 obtain⟨y0,y1,y2,y3,y4,y5⟩:=kAx hb
 have HA:=Lib.hid ha
 clear ha hu1 hb
 go_enter Tryz.func73,Tryz.ntmps73
 go_wp2_with fail
 refine (HA.out _ HU.out).mono ?_
 rintro e w2 ⟨rfl,hu2⟩
 have HU2:=Lib.hid (HU.out.trans_ext hu2)
 clear hu2
 go_wp2_with fail
 go_ret
 exact⟨rfl,HU2.out⟩
theorem rtext_not (so nn mm:Int) (a1:Option Addr) (b2 b3:Nat) (g o d3:Nat) (xo:Int) (xn1:Option Addr) (xn2 xn3:Nat) (xs xm xq:Int) (xl1:Option Addr) (xl2 xl3:Nat) (T:List UInt8) (hl:T.length≤1000000000000) (last:Bool) (u:World) (hx0:u.cell? ⟨g,o,none⟩=some (.int .i64 xo)) (hx1:u.cell? ⟨g,o+1,none⟩=some (.slice xn1 xn2 xn3)) (hx2:u.cell? ⟨g,o+2,none⟩=some (.int .i64 xs)) (hx3:u.cell? ⟨g,o+3,none⟩=some (.int .i64 xm)) (hx4:u.cell? ⟨g,o+4,none⟩=some (.int .i64 xq)) (hx5:u.cell? ⟨g,o+5,none⟩=some (.slice xl1 xl2 xl3))
  (ha:∀w,Upto [] u w→Calls Tryz.prog 112 #[.int .i64 11,.int .i64 0,.agg #[.int .i64 xo,.slice xn1 xn2 xn3,.int .i64 xs,.int .i64 xm,.int .i64 xq,.slice xl1 xl2 xl3],.bool last] w fun e w'=>e=.returned (.string ⟨T.toArray⟩)∧Upto [] w w'):Calls Tryz.prog 73 #[.agg #[.int .i64 11,.slice a1 b2 b3,.int .i64 so,.int .i64 nn,.int .i64 mm,.slice (some ⟨g,o,none⟩) 1 d3],.bool last] u fun e w'=>e=.returned (.string ⟨([110,111,116,32]++T).toArray⟩)∧Upto [] u w':=by
 have hu1:Upto [] u (u.alloc (.cells #[.int .i64 11,.slice a1 b2 b3,.int .i64 so,.int .i64 nn,.int .i64 mm,.slice (some ⟨g,o,none⟩) 1 d3] 25)):=(Upto.refl [] u).alloc _
 have HU:=Lib.hid hu1
 have hb:=kAq u (.cells #[.int .i64 11,.slice a1 b2 b3,.int .i64 so,.int .i64 nn,.int .i64 mm,.slice (some ⟨g,o,none⟩) 1 d3] 25)
 obtain⟨y0,y1,y2,y3,y4,y5⟩:=kAx hb
 replace hx0:=kAw hu1 hx0
 replace hx1:=kAw hu1 hx1
 replace hx2:=kAw hu1 hx2
 replace hx3:=kAw hu1 hx3
 replace hx4:=kAw hu1 hx4
 replace hx5:=kAw hu1 hx5
 have HA:=Lib.hid ha
 have sm0:4+T.length≤9223372036854775807:=by omega
 clear ha hu1 hb hl
 go_enter Tryz.func73,Tryz.ntmps73
 go_wp2_with fail
 refine (HA.out _ HU.out).mono ?_
 rintro e w2 ⟨rfl,hu2⟩
 have HU2:=Lib.hid (HU.out.trans_ext hu2)
 clear hu2
 go_wp2_with fail
 go_ret
 exact⟨congrArg (fun z=>Ending.returned (.string z)) (show ByteArray.mk [110,111,116,32].toArray++ByteArray.mk T.toArray=⟨([110,111,116,32]++T).toArray⟩ by simp only [ByteArray.mk_append_mk]),HU2.out⟩
theorem rtext_qu (op so nn mm:Int) (a1:Option Addr) (b2 b3:Nat) (g o d3:Nat) (xo:Int) (xn1:Option Addr) (xn2 xn3:Nat) (xs xm xq:Int) (xl1:Option Addr) (xl2 xl3:Nat) (B T:List UInt8) (hlb:B.length≤1000000000000) (hl:T.length≤1000000000000) (last:Bool) (u:World) (h16:16≤op) (hx0:u.cell? ⟨g,o,none⟩=some (.int .i64 xo)) (hx1:u.cell? ⟨g,o+1,none⟩=some (.slice xn1 xn2 xn3)) (hx2:u.cell? ⟨g,o+2,none⟩=some (.int .i64 xs)) (hx3:u.cell? ⟨g,o+3,none⟩=some (.int .i64 xm)) (hx4:u.cell? ⟨g,o+4,none⟩=some (.int .i64 xq)) (hx5:u.cell? ⟨g,o+5,none⟩=some (.slice xl1 xl2 xl3))
  (hbd:∀w,Upto [] u w→Calls Tryz.prog 113 #[.agg #[.int .i64 op,.slice a1 b2 b3,.int .i64 so,.int .i64 nn,.int .i64 mm,.slice (some ⟨g,o,none⟩) 1 d3]] w fun e w'=>e=.returned (.string ⟨B.toArray⟩)∧Upto [] w w')
  (ha:∀w,Upto [] u w→Calls Tryz.prog 73 #[.agg #[.int .i64 xo,.slice xn1 xn2 xn3,.int .i64 xs,.int .i64 xm,.int .i64 xq,.slice xl1 xl2 xl3],.bool true] w fun e w'=>e=.returned (.string ⟨T.toArray⟩)∧Upto [] w w'):Calls Tryz.prog 73 #[.agg #[.int .i64 op,.slice a1 b2 b3,.int .i64 so,.int .i64 nn,.int .i64 mm,.slice (some ⟨g,o,none⟩) 1 d3],.bool last] u fun e w'=>e=.returned (.string ⟨(B++[32]++T).toArray⟩)∧Upto [] u w':=by
 have hu1:Upto [] u (u.alloc (.cells #[.int .i64 op,.slice a1 b2 b3,.int .i64 so,.int .i64 nn,.int .i64 mm,.slice (some ⟨g,o,none⟩) 1 d3] 25)):=(Upto.refl [] u).alloc _
 have HU:=Lib.hid hu1
 have hb:=kAq u (.cells #[.int .i64 op,.slice a1 b2 b3,.int .i64 so,.int .i64 nn,.int .i64 mm,.slice (some ⟨g,o,none⟩) 1 d3] 25)
 obtain⟨y0,y1,y2,y3,y4,y5⟩:=kAx hb
 replace hx0:=kAw hu1 hx0
 replace hx1:=kAw hu1 hx1
 replace hx2:=kAw hu1 hx2
 replace hx3:=kAw hu1 hx3
 replace hx4:=kAw hu1 hx4
 replace hx5:=kAw hu1 hx5
 have HA:=Lib.hid ha
 have HBD:=Lib.hid hbd
 have q1:¬op<11:=by omega
 have q2:(op==11)=false:=by rw [beq_eq_false_iff_ne];omega
 have q3:15<op:=by omega
 have sm0:B.length+1≤9223372036854775807:=by omega
 have sm1:B.length+1+T.length≤9223372036854775807:=by omega
 clear ha hbd hu1 hb hl hlb h16
 go_enter Tryz.func73,Tryz.ntmps73
 go_wp2_with fail
 have ey0:=fun z:Ext (u.alloc (.cells #[.int .i64 op,.slice a1 b2 b3,.int .i64 so,.int .i64 nn,.int .i64 mm,.slice (some ⟨g,o,none⟩) 1 d3] 25))=>z.cell y0
 have ey1:=fun z:Ext (u.alloc (.cells #[.int .i64 op,.slice a1 b2 b3,.int .i64 so,.int .i64 nn,.int .i64 mm,.slice (some ⟨g,o,none⟩) 1 d3] 25))=>z.cell y1
 have ey2:=fun z:Ext (u.alloc (.cells #[.int .i64 op,.slice a1 b2 b3,.int .i64 so,.int .i64 nn,.int .i64 mm,.slice (some ⟨g,o,none⟩) 1 d3] 25))=>z.cell y2
 have ey3:=fun z:Ext (u.alloc (.cells #[.int .i64 op,.slice a1 b2 b3,.int .i64 so,.int .i64 nn,.int .i64 mm,.slice (some ⟨g,o,none⟩) 1 d3] 25))=>z.cell y3
 have ey4:=fun z:Ext (u.alloc (.cells #[.int .i64 op,.slice a1 b2 b3,.int .i64 so,.int .i64 nn,.int .i64 mm,.slice (some ⟨g,o,none⟩) 1 d3] 25))=>z.cell y4
 have ey5:=fun z:Ext (u.alloc (.cells #[.int .i64 op,.slice a1 b2 b3,.int .i64 so,.int .i64 nn,.int .i64 mm,.slice (some ⟨g,o,none⟩) 1 d3] 25))=>z.cell y5
 have ex0:=fun z:Ext (u.alloc (.cells #[.int .i64 op,.slice a1 b2 b3,.int .i64 so,.int .i64 nn,.int .i64 mm,.slice (some ⟨g,o,none⟩) 1 d3] 25))=>z.cell hx0
 have ex1:=fun z:Ext (u.alloc (.cells #[.int .i64 op,.slice a1 b2 b3,.int .i64 so,.int .i64 nn,.int .i64 mm,.slice (some ⟨g,o,none⟩) 1 d3] 25))=>z.cell hx1
 have ex2:=fun z:Ext (u.alloc (.cells #[.int .i64 op,.slice a1 b2 b3,.int .i64 so,.int .i64 nn,.int .i64 mm,.slice (some ⟨g,o,none⟩) 1 d3] 25))=>z.cell hx2
 have ex3:=fun z:Ext (u.alloc (.cells #[.int .i64 op,.slice a1 b2 b3,.int .i64 so,.int .i64 nn,.int .i64 mm,.slice (some ⟨g,o,none⟩) 1 d3] 25))=>z.cell hx3
 have ex4:=fun z:Ext (u.alloc (.cells #[.int .i64 op,.slice a1 b2 b3,.int .i64 so,.int .i64 nn,.int .i64 mm,.slice (some ⟨g,o,none⟩) 1 d3] 25))=>z.cell hx4
 have ex5:=fun z:Ext (u.alloc (.cells #[.int .i64 op,.slice a1 b2 b3,.int .i64 so,.int .i64 nn,.int .i64 mm,.slice (some ⟨g,o,none⟩) 1 d3] 25))=>z.cell hx5
 clear y0 y1 y2 y3 y4 y5 hx0 hx1 hx2 hx3 hx4 hx5
 refine kFx [1,7] [] [0,1,2,3,4,5,6,7,8,9] (by kernel_rfl) (by kernel_rfl) ?_
 (refine kCq rfl rfl rfl rfl rfl ?_;intro K' hK';go_big_quiet_op;go_big_quiet_on)
 refine kMw rfl rfl rfl rfl (fun w=>by go_simp) (fun w' hu hd=>HBD.out w' (HU.out.trans_ext hu)) ?_
 simp only [Act.put,List.setIfInBounds_toArray,List.set_cons_zero,List.set_cons_succ]
 iterate 5 (refine kCq rfl rfl rfl rfl rfl ?_;intro K' hK';go_big_quiet_op;go_big_quiet_on)
 refine kMw rfl rfl rfl rfl (fun w=>by go_simp) (fun w' hu hd=>HA.out w' (HU.out.trans_ext hu)) ?_
 simp only [Act.put,List.setIfInBounds_toArray,List.set_cons_zero,List.set_cons_succ]
 iterate 2 (refine kCq rfl rfl rfl rfl rfl ?_;intro K' hK';go_big_quiet_op;go_big_quiet_on)
 intro w9 hg
 have HW9:=Lib.hid (HU.out.trans_ext hg.up)
 clear hg ey0 ey1 ey2 ey3 ey4 ey5 ex0 ex1 ex2 ex3 ex4 ex5
 go_wp2_with fail
 go_ret
 exact⟨congrArg (fun z=>Ending.returned (.string z)) (show ByteArray.mk B.toArray++ByteArray.mk [32].toArray++ByteArray.mk T.toArray=⟨(B++[32]++T).toArray⟩ by simp only [ByteArray.mk_append_mk]),HW9.out⟩
theorem rtext_two (k:Nat) (so nn mm:Int) (a1:Option Addr) (b2 b3:Nat) (g o d3:Nat) (xo:Int) (xn1:Option Addr) (xn2 xn3:Nat) (xs xm xq:Int) (xl1:Option Addr) (xl2 xl3:Nat) (yo:Int) (yn1:Option Addr) (yn2 yn3:Nat) (ys ym yq:Int) (yl1:Option Addr) (yl2 yl3:Nat) (A B:List UInt8) (hla:A.length≤1000000000000) (hlb:B.length≤1000000000000) (last:Bool) (u:World) (h12:12≤k) (h16:k<16) (hx0:u.cell? ⟨g,o,none⟩=some (.int .i64 xo)) (hx1:u.cell? ⟨g,o+1,none⟩=some (.slice xn1 xn2 xn3)) (hx2:u.cell? ⟨g,o+2,none⟩=some (.int .i64 xs)) (hx3:u.cell? ⟨g,o+3,none⟩=some (.int .i64 xm)) (hx4:u.cell? ⟨g,o+4,none⟩=some (.int .i64 xq)) (hx5:u.cell? ⟨g,o+5,none⟩=some (.slice xl1 xl2 xl3))
  (hy0:u.cell? ⟨g,o+6,none⟩=some (.int .i64 yo)) (hy1:u.cell? ⟨g,o+6+1,none⟩=some (.slice yn1 yn2 yn3)) (hy2:u.cell? ⟨g,o+6+2,none⟩=some (.int .i64 ys)) (hy3:u.cell? ⟨g,o+6+3,none⟩=some (.int .i64 ym)) (hy4:u.cell? ⟨g,o+6+4,none⟩=some (.int .i64 yq)) (hy5:u.cell? ⟨g,o+6+5,none⟩=some (.slice yl1 yl2 yl3))
  (ha:∀w,Upto [] u w→Calls Tryz.prog 112 #[.int .i64 (k:Int),.int .i64 0,.agg #[.int .i64 xo,.slice xn1 xn2 xn3,.int .i64 xs,.int .i64 xm,.int .i64 xq,.slice xl1 xl2 xl3],.bool false] w fun e w'=>e=.returned (.string ⟨A.toArray⟩)∧Upto [] w w')
  (hb':∀w,Upto [] u w→Calls Tryz.prog 112 #[.int .i64 (k:Int),.int .i64 1,.agg #[.int .i64 yo,.slice yn1 yn2 yn3,.int .i64 ys,.int .i64 ym,.int .i64 yq,.slice yl1 yl2 yl3],.bool last] w fun e w'=>e=.returned (.string ⟨B.toArray⟩)∧Upto [] w w'):Calls Tryz.prog 73 #[.agg #[.int .i64 (k:Int),.slice a1 b2 b3,.int .i64 so,.int .i64 nn,.int .i64 mm,.slice (some ⟨g,o,none⟩) 2 d3],.bool last] u fun e w'=>e=.returned (.string ⟨(A++[32]++conW (k:Int)++[32]++B).toArray⟩)∧Upto [] u w':=by
 have hu1:Upto [] u (u.alloc (.cells #[.int .i64 (k:Int),.slice a1 b2 b3,.int .i64 so,.int .i64 nn,.int .i64 mm,.slice (some ⟨g,o,none⟩) 2 d3] 25)):=(Upto.refl [] u).alloc _
 have HU:=Lib.hid hu1
 have hb:=kAq u (.cells #[.int .i64 (k:Int),.slice a1 b2 b3,.int .i64 so,.int .i64 nn,.int .i64 mm,.slice (some ⟨g,o,none⟩) 2 d3] 25)
 obtain⟨y0,y1,y2,y3,y4,y5⟩:=kAx hb
 replace hx0:=kAw hu1 hx0
 replace hx1:=kAw hu1 hx1
 replace hx2:=kAw hu1 hx2
 replace hx3:=kAw hu1 hx3
 replace hx4:=kAw hu1 hx4
 replace hx5:=kAw hu1 hx5
 replace hy0:=kAw hu1 hy0
 replace hy1:=kAw hu1 hy1
 replace hy2:=kAw hu1 hy2
 replace hy3:=kAw hu1 hy3
 replace hy4:=kAw hu1 hy4
 replace hy5:=kAw hu1 hy5
 have HA:=Lib.hid ha
 have HB:=Lib.hid hb'
 have HWD:=Lib.hid (fun z=>word_calls k (by omega) z)
 rw [refW_word (by omega) (by omega),←conW_word ⟨h12,h16⟩] at HWD
 have hwl:=wordsF_len k
 rw [←conW_word ⟨h12,h16⟩] at hwl
 generalize conW (k:Int)=W at *
 have q1:¬(k:Int)<11:=by omega
 have q2:((k:Int)==11)=false:=by rw [beq_eq_false_iff_ne];omega
 have q3:¬15<(k:Int):=by omega
 have sm0:A.length+1≤9223372036854775807:=by omega
 have sm1:A.length+1+W.length≤9223372036854775807:=by omega
 have sm2:A.length+1+W.length+1≤9223372036854775807:=by omega
 have sm3:A.length+1+W.length+1+B.length≤9223372036854775807:=by omega
 clear ha hb' hu1 hb hla hlb h12 h16 hwl
 go_enter Tryz.func73,Tryz.ntmps73
 go_wp2_with fail
 have ey0:=fun z:Ext (u.alloc (.cells #[.int .i64 (k:Int),.slice a1 b2 b3,.int .i64 so,.int .i64 nn,.int .i64 mm,.slice (some ⟨g,o,none⟩) 2 d3] 25))=>z.cell y0
 have ey1:=fun z:Ext (u.alloc (.cells #[.int .i64 (k:Int),.slice a1 b2 b3,.int .i64 so,.int .i64 nn,.int .i64 mm,.slice (some ⟨g,o,none⟩) 2 d3] 25))=>z.cell y1
 have ey2:=fun z:Ext (u.alloc (.cells #[.int .i64 (k:Int),.slice a1 b2 b3,.int .i64 so,.int .i64 nn,.int .i64 mm,.slice (some ⟨g,o,none⟩) 2 d3] 25))=>z.cell y2
 have ey3:=fun z:Ext (u.alloc (.cells #[.int .i64 (k:Int),.slice a1 b2 b3,.int .i64 so,.int .i64 nn,.int .i64 mm,.slice (some ⟨g,o,none⟩) 2 d3] 25))=>z.cell y3
 have ey4:=fun z:Ext (u.alloc (.cells #[.int .i64 (k:Int),.slice a1 b2 b3,.int .i64 so,.int .i64 nn,.int .i64 mm,.slice (some ⟨g,o,none⟩) 2 d3] 25))=>z.cell y4
 have ey5:=fun z:Ext (u.alloc (.cells #[.int .i64 (k:Int),.slice a1 b2 b3,.int .i64 so,.int .i64 nn,.int .i64 mm,.slice (some ⟨g,o,none⟩) 2 d3] 25))=>z.cell y5
 have ex0:=fun z:Ext (u.alloc (.cells #[.int .i64 (k:Int),.slice a1 b2 b3,.int .i64 so,.int .i64 nn,.int .i64 mm,.slice (some ⟨g,o,none⟩) 2 d3] 25))=>z.cell hx0
 have ex1:=fun z:Ext (u.alloc (.cells #[.int .i64 (k:Int),.slice a1 b2 b3,.int .i64 so,.int .i64 nn,.int .i64 mm,.slice (some ⟨g,o,none⟩) 2 d3] 25))=>z.cell hx1
 have ex2:=fun z:Ext (u.alloc (.cells #[.int .i64 (k:Int),.slice a1 b2 b3,.int .i64 so,.int .i64 nn,.int .i64 mm,.slice (some ⟨g,o,none⟩) 2 d3] 25))=>z.cell hx2
 have ex3:=fun z:Ext (u.alloc (.cells #[.int .i64 (k:Int),.slice a1 b2 b3,.int .i64 so,.int .i64 nn,.int .i64 mm,.slice (some ⟨g,o,none⟩) 2 d3] 25))=>z.cell hx3
 have ex4:=fun z:Ext (u.alloc (.cells #[.int .i64 (k:Int),.slice a1 b2 b3,.int .i64 so,.int .i64 nn,.int .i64 mm,.slice (some ⟨g,o,none⟩) 2 d3] 25))=>z.cell hx4
 have ex5:=fun z:Ext (u.alloc (.cells #[.int .i64 (k:Int),.slice a1 b2 b3,.int .i64 so,.int .i64 nn,.int .i64 mm,.slice (some ⟨g,o,none⟩) 2 d3] 25))=>z.cell hx5
 have ez0:=fun z:Ext (u.alloc (.cells #[.int .i64 (k:Int),.slice a1 b2 b3,.int .i64 so,.int .i64 nn,.int .i64 mm,.slice (some ⟨g,o,none⟩) 2 d3] 25))=>z.cell hy0
 have ez1:=fun z:Ext (u.alloc (.cells #[.int .i64 (k:Int),.slice a1 b2 b3,.int .i64 so,.int .i64 nn,.int .i64 mm,.slice (some ⟨g,o,none⟩) 2 d3] 25))=>z.cell hy1
 have ez2:=fun z:Ext (u.alloc (.cells #[.int .i64 (k:Int),.slice a1 b2 b3,.int .i64 so,.int .i64 nn,.int .i64 mm,.slice (some ⟨g,o,none⟩) 2 d3] 25))=>z.cell hy2
 have ez3:=fun z:Ext (u.alloc (.cells #[.int .i64 (k:Int),.slice a1 b2 b3,.int .i64 so,.int .i64 nn,.int .i64 mm,.slice (some ⟨g,o,none⟩) 2 d3] 25))=>z.cell hy3
 have ez4:=fun z:Ext (u.alloc (.cells #[.int .i64 (k:Int),.slice a1 b2 b3,.int .i64 so,.int .i64 nn,.int .i64 mm,.slice (some ⟨g,o,none⟩) 2 d3] 25))=>z.cell hy4
 have ez5:=fun z:Ext (u.alloc (.cells #[.int .i64 (k:Int),.slice a1 b2 b3,.int .i64 so,.int .i64 nn,.int .i64 mm,.slice (some ⟨g,o,none⟩) 2 d3] 25))=>z.cell hy5
 clear y0 y1 y2 y3 y4 y5 hx0 hx1 hx2 hx3 hx4 hx5 hy0 hy1 hy2 hy3 hy4 hy5
 refine kFx [6,10,20] [] [0,1,2,3,4,5,6,7,8,9,10,11,12,13,14,15,16,17,18,19,20,21,22] (by kernel_rfl) (by kernel_rfl) ?_
 iterate 6 (refine kCq rfl rfl rfl rfl rfl ?_;intro K' hK';go_big_quiet_op;go_big_quiet_on)
 refine kMw rfl rfl rfl rfl (fun w=>by go_simp) (fun w' hu hd=>HA.out w' (HU.out.trans_ext hu)) ?_
 simp only [Act.put,List.setIfInBounds_toArray,List.set_cons_zero,List.set_cons_succ]
 iterate 3 (refine kCq rfl rfl rfl rfl rfl ?_;intro K' hK';go_big_quiet_op;go_big_quiet_on)
 refine kMw rfl rfl rfl rfl (fun w=>by go_simp) (fun w' hu hd=>HWD.out w') ?_
 simp only [Act.put,List.setIfInBounds_toArray,List.set_cons_zero,List.set_cons_succ]
 iterate 9 (refine kCq rfl rfl rfl rfl rfl ?_;intro K' hK';go_big_quiet_op;go_big_quiet_on)
 refine kMw rfl rfl rfl rfl (fun w=>by go_simp) (fun w' hu hd=>HB.out w' (HU.out.trans_ext hu)) ?_
 simp only [Act.put,List.setIfInBounds_toArray,List.set_cons_zero,List.set_cons_succ]
 iterate 2 (refine kCq rfl rfl rfl rfl rfl ?_;intro K' hK';go_big_quiet_op;go_big_quiet_on)
 intro w9 hg
 have HW9:=Lib.hid (HU.out.trans_ext hg.up)
 clear hg ey0 ey1 ey2 ey3 ey4 ey5 ex0 ex1 ex2 ex3 ex4 ex5 ez0 ez1 ez2 ez3 ez4 ez5
 go_wp2_with fail
 go_ret
 exact⟨congrArg (fun z=>Ending.returned (.string z)) (show ByteArray.mk A.toArray++ByteArray.mk [32].toArray++ByteArray.mk W.toArray++ByteArray.mk [32].toArray++ByteArray.mk B.toArray=⟨(A++[32]++W++[32]++B).toArray⟩ by simp only [ByteArray.mk_append_mk]),HW9.out⟩
theorem opJ_len {op:Int} {place:Nat} {x:Nd} {last:Bool} (hok:okF x):(opJ op place x last).length≤175*kCz x+200:=by
 have h1:=jn_len hok true
 have h2:=jn_len hok last
 rw [opJ_eq]
 split
 ·simp only [List.length_append,List.length_cons,List.length_nil];omega
 ·omega
theorem rtext_calls:∀(k:Nat) (nd:Nd),kCz nd≤k→k≤10000000→okF nd→∀(w0:World) (P:Nat→Prop) (v:Value),NdV w0 P nd v→RtP w0 nd v
 | 0,nd,hk,_,_,_,_,_,_=>by have:=kJx nd;omega
 | k+1,.mk op names so n m l,hk,hk2,hok,w0,P,v,h=>by
  intro last u hu
  have hop:=ok_op hok
  have h':=h.ext hu
  by_cases h11:op<11
  ·have hat:=ratom_calls op so n m names l v hok h11 h
   obtain⟨a1,c1,a2,c2,rfl,-,-⟩:=h'.open
   rw [prT_atom last h11]
   exact rtext_atom op so n m a1 _ c1 a2 _ c2 _ last u h11 (fun w hw=>hat w (hu.trans_ext hw))
  obtain⟨a1,c1,a2,c2,rfl,hs,hls⟩:=h'.open
  have hok':=hok
  unfold okF at hok
  obtain⟨hnm,hc,hss⟩:=hok
  have hsz:kBk l≤k:=by unfold kCz at hk;omega
  by_cases h16:op<16
  ·by_cases e11:op=11
   ·subst e11
    have hl1:l.length=1:=by omega
    match l,hl1 with
    | [x],_ =>
     unfold oksF at hss
     have hxs:kCz x≤k:=by simp only [kBk] at hsz;omega
     obtain⟨g,o,xo,xn1,xn2,xn3,xs,xm,xq,xl1,xl2,xl3,rfl,d0,d1,d2,d3,d4,d5,hn⟩:=ls_one hls
     have ih:=rtext_calls k x hxs (by omega) hss.1 u P _ hn
     have hlen:=jn_len hss.1 true
     rw [jn_not]
     exact rtext_not so n m a1 _ c1 g o c2 xo xn1 xn2 xn3 xs xm xq xl1 xl2 xl3 _ (by have:=opJ_len (op:=11) (place:=0) (last:=last) hss.1;omega) last u d0 d1 d2 d3 d4 d5 (fun w hw=>oper_calls 11 (by decide) (by decide) 0 (by decide) x _ _ _ _ _ _ _ _ _ _ (nd_op hn) last w (by omega) (fun b z hz=>ih b z (hw.trans_ext hz)))
   ·have hl2:l.length=2:=by omega
    obtain⟨kk,rfl⟩:=kUj hop.1
    match l,hl2 with
    | [x,y],_ =>
     unfold oksF oksF at hss
     have hxs:kCz x≤k:=by simp only [kBk] at hsz;omega
     have hys:kCz y≤k:=by simp only [kBk] at hsz;omega
     obtain⟨g,o,xo,xn1,xn2,xn3,xs,xm,xq,xl1,xl2,xl3,rfl,d0,d1,d2,d3,d4,d5,hn⟩:=ls_one hls
     obtain⟨g',o',yo,yn1,yn2,yn3,ys,ym,yq,yl1,yl2,yl3,he,t0,t1,t2,t3,t4,t5,hn'⟩:=hls 1 y rfl
     simp only [Option.some.injEq,Addr.mk.injEq,and_true] at he
     obtain⟨rfl,rfl⟩:=he
     simp only [Nat.one_mul] at t0 t1 t2 t3 t4 t5
     have ihx:=rtext_calls k x hxs (by omega) hss.1 u P _ hn
     have ihy:=rtext_calls k y hys (by omega) hss.2.1 u P _ hn'
     have hlx:=jn_len hss.1 true
     have hly:=jn_len hss.2.1 true
     rw [jn_bin (by omega) h16]
     exact rtext_two kk so n m a1 _ c1 g o c2 xo xn1 xn2 xn3 xs xm xq xl1 xl2 xl3 yo yn1 yn2 yn3 ys ym yq yl1 yl2 yl3 _ _ (by have:=opJ_len (op:=kk) (place:=0) (last:=false) hss.1;omega) (by have:=opJ_len (op:=kk) (place:=1) (last:=last) hss.2.1;omega) last u (by omega) (by omega) d0 d1 d2 d3 d4 d5 t0 t1 t2 t3 t4 t5
      (fun w hw=>oper_calls kk (by omega) (by omega) 0 (by decide) x _ _ _ _ _ _ _ _ _ _ (nd_op hn) false w (by omega) (fun b z hz=>ihx b z (hw.trans_ext hz)))
      (fun w hw=>oper_calls kk (by omega) (by omega) 1 (by decide) y _ _ _ _ _ _ _ _ _ _ (nd_op hn') last w (by omega) (fun b z hz=>ihy b z (hw.trans_ext hz)))
  ·have hl1:l.length=1:=by omega
   have hn1:names.length=1:=by omega
   have hso:0≤so∧so<4:=by omega
   obtain⟨kk,rfl⟩:=kUj hop.1
   match l,hl1,names,hn1 with
   | [x],_,[nmx],_ =>
    unfold oksF at hss
    have hxs:kCz x≤k:=by simp only [kBk] at hsz;omega
    obtain⟨g,o,xo,xn1,xn2,xn3,xs,xm,xq,xl1,xl2,xl3,rfl,d0,d1,d2,d3,d4,d5,hn⟩:=ls_one hls
    have ih:=rtext_calls k x hxs (by omega) hss.1 u P _ hn
    have hlx:=jn_len hss.1 true
    have hnl:=kUx (hnm nmx (by simp))
    obtain⟨a,c,he,hg⟩:=hs.get
    simp only [Value.slice.injEq] at he
    obtain⟨rfl,-,rfl⟩:=he
    obtain⟨gn,on,rfl,dn⟩:=hg 0 (sV nmx) rfl
    rw [Nat.add_zero] at dn
    have hsl:(kOj so).length≤10:=by rw [←sort_word hso.1 hso.2];exact sortW_len _
    have hql:(quW (kk:Int)).length≤10:=by rw [quW_word ⟨by omega,by omega⟩];exact wordsF_len _
    rw [jn_qu (by omega),sort_word hso.1 hso.2]
    exact rtext_qu kk so n m _ _ c1 g o c2 xo xn1 xn2 xn3 xs xm xq xl1 xl2 xl3 _ _ (by simp only [List.length_append,List.length_cons,List.length_nil];omega) (by omega) last u (by omega) d0 d1 d2 d3 d4 d5
     (fun w hw=>binds_calls kk (by omega) (by omega) so n m gn on _ c1 _ _ c2 nmx (by omega) w ((hw.cell (World.block_lt_of_cell? u _ dn) (by simp)).trans dn) (by simp))
     (fun w hw=>ih true w hw)
theorem rfind_calls (f:List (List UInt8×Int)) (v:Value) (w:World) (P:Nat→Prop) (hv:VarsV w P v f) (hf:okV f):Calls Tryz.prog 74 #[v] w fun e w'=>e=.returned (.string ⟨([102,105,110,100]++frS f++[32,58]).toArray⟩)∧Upto [] w w':=by
 obtain⟨L,hL⟩:∃L,f.length=L:=⟨_,rfl⟩
 obtain⟨a1,a3,rfl⟩:=hv.len
 rw [hL]
 have HVS:=Lib.hid (kWj hv)
 have HSO:=Lib.hid (fun s u=>sorted_calls s u)
 have HOK:=Lib.hid hf.2.1
 have HL:=Lib.hid hL
 have hL8:L≤8:=by have:=hf.1;omega
 have HYL:Hid (∀j,(frS (f.take j)).length≤300):=Lib.hid (fun j=>by
  have h1:=frS_len (f.take j) (fun v hv'=>kUx (hf.2.1 v (List.mem_of_mem_take hv')).1)
  have h2:(f.take j).length≤8:=by rw [List.length_take];omega
  omega)
 have hLI:(L:Int)≤8:=by omega
 have hL0:(0:Int)≤L:=by omega
 obtain⟨R,hR⟩:∃R,[102,105,110,100]++frS f++[32,58]=R:=⟨_,rfl⟩
 rw [hR]
 have HRR:=Lib.hid hR
 clear hv hf hL hR
 go_enter Tryz.func74,Tryz.ntmps74
 go_wp2_with fail
 go_loopw [3,4] (fun s i wr=>∃j:Nat,j≤L∧s=.string ⟨([102,105,110,100]++frS (f.take j)).toArray⟩∧i=.int .i64 j∧Hid (Upto [] w wr)) (fun _ i _=>L-(intOf i).toNat)
 case atStart=>exact⟨0,by omega,rfl,rfl,Lib.hid (Upto.refl _ _)⟩
 case round =>
  obtain⟨j,hj,rfl,rfl,HU⟩:=hrel
  have hj0:(0:Int)≤j:=by omega
  have hyl:=HYL.out j
  rcases Nat.lt_or_ge j L with hlt | hge
  ·have hltI:(j:Int)<L:=by omega
   obtain⟨⟨x1,x2⟩,hx⟩:∃x,f[j]?=some x:=⟨_,List.getElem?_eq_getElem (by rw [HL.out];exact hlt)⟩
   obtain⟨g,o,rfl,d0,d1⟩:=HVS.out j _ hx
   simp only at d0 d1
   replace d0:=kAw HU.out d0
   replace d1:=kAw HU.out d1
   have hok:=HOK.out _ (List.mem_of_getElem? hx)
   have hxl:x1.length≤16:=kUx hok.1
   have HSW:Hid (kDj.getD x2.toNat []=kOj x2):=Lib.hid (sort_word hok.2.1 hok.2.2)
   have hzl:(kOj x2).length≤10:=by rw [←HSW.out];exact sortW_len _
   have HT:Hid (f.take (j+1)=f.take j++[(x1,x2)]):=Lib.hid (by
    obtain⟨hi,h2⟩:=List.getElem?_eq_some_iff.1 hx
    rw [List.take_succ_eq_append_getElem hi,h2])
   have hsl:([102,105,110,100]++frS (f.take j)).length≤400:=by rw [List.length_append];simp only [List.length_cons,List.length_nil];omega
   by_cases hz:j=0
   ·subst hz
    have HFE:Hid ([102,105,110,100]++frS (f.take 1)=[102,105,110,100]++frS (f.take 0)++[32]++kOj x2++[32]++x1):=Lib.hid (by
     rw [HT.out,List.take_zero,frS_snoc,HSW.out]
     simp [frS_nil])
    generalize [102,105,110,100]++frS (f.take 0)=S at *
    have HZ:Hid (∀u,Calls Tryz.prog 20 #[.int .i64 x2] u fun e w'=>e=.returned (.string ⟨(kOj x2).toArray⟩)∧Upto [] u w'):=Lib.hid (fun u=>HSO.out x2 u)
    generalize kOj x2=Z at *
    clear hx HT HSW hok hyl
    simp only [Nat.zero_mul,Nat.add_zero] at d0 d1
    have e0:=fun u:Ext wr=>u.cell d0
    have e1:=fun u:Ext wr=>u.cell d1
    clear d0 d1
    have sm0:S.length+1≤9223372036854775807:=by omega
    have sm1:S.length+1+Z.length≤9223372036854775807:=by omega
    have sm2:S.length+1+Z.length+1≤9223372036854775807:=by omega
    have sm3:S.length+1+Z.length+1+x1.length≤9223372036854775807:=by omega
    go_wp2_with fail
    refine kFx [7] [] [0,1,2,3,4,5,6,7,8,9,10,11,12,13,14,15,16] (by kernel_rfl) (by kernel_rfl) ?_
    iterate 7 (refine kCq rfl rfl rfl rfl rfl ?_;intro K' hK';go_big_quiet_op;go_big_quiet_on)
    refine kMw rfl rfl rfl rfl (fun w=>by go_simp) (fun w' hu hd=>HZ.out w') ?_
    simp only [Act.put,List.setIfInBounds_toArray,List.set_cons_zero,List.set_cons_succ]
    iterate 9 (refine kCq rfl rfl rfl rfl rfl ?_;intro K' hK';go_big_quiet_op;go_big_quiet_on)
    intro w9 hg
    have HW9:=Lib.hid (HU.out.trans_ext hg.up)
    clear hg e0 e1
    go_wp2_with fail
    go_roundw
    case rel =>
     refine⟨1,by omega,?_,by go_num,HW9⟩
     rw [HFE.out]
     exact congrArg Value.string (show ByteArray.mk S.toArray++ByteArray.mk [32].toArray++ByteArray.mk Z.toArray++ByteArray.mk [32].toArray++ByteArray.mk x1.toArray=⟨(S++[32]++Z++[32]++x1).toArray⟩ by simp only [ByteArray.mk_append_mk])
    case measure=>simp [intOf];omega
   ·have hzJ:(0:Int)<j:=by omega
    have HFE:Hid ([102,105,110,100]++frS (f.take (j+1))=[102,105,110,100]++frS (f.take j)++[32,44]++[32]++kOj x2++[32]++x1):=Lib.hid (by
     have hne:f.take j≠[]:=fun h=>by
      have:=congrArg List.length h
      rw [List.length_take,HL.out,List.length_nil] at this
      omega
     rw [HT.out,frS_snoc,if_neg hne,HSW.out]
     simp)
    generalize [102,105,110,100]++frS (f.take j)=S at *
    have HZ:Hid (∀u,Calls Tryz.prog 20 #[.int .i64 x2] u fun e w'=>e=.returned (.string ⟨(kOj x2).toArray⟩)∧Upto [] u w'):=Lib.hid (fun u=>HSO.out x2 u)
    generalize kOj x2=Z at *
    clear hx HT HSW hok hyl hz
    have e0:=fun u:Ext wr=>u.cell d0
    have e1:=fun u:Ext wr=>u.cell d1
    clear d0 d1
    have sm0:S.length+2+1≤9223372036854775807:=by omega
    have sm1:S.length+2+1+Z.length≤9223372036854775807:=by omega
    have sm2:S.length+2+1+Z.length+1≤9223372036854775807:=by omega
    have sm3:S.length+2+1+Z.length+1+x1.length≤9223372036854775807:=by omega
    have smc:S.length+2≤9223372036854775807:=by omega
    go_wp2_with fail
    refine kFx [7] [] [0,1,2,3,4,5,6,7,8,9,10,11,12,13,14,15,16] (by kernel_rfl) (by kernel_rfl) ?_
    iterate 7 (refine kCq rfl rfl rfl rfl rfl ?_;intro K' hK';go_big_quiet_op;go_big_quiet_on)
    refine kMw rfl rfl rfl rfl (fun w=>by go_simp) (fun w' hu hd=>HZ.out w') ?_
    simp only [Act.put,List.setIfInBounds_toArray,List.set_cons_zero,List.set_cons_succ]
    iterate 9 (refine kCq rfl rfl rfl rfl rfl ?_;intro K' hK';go_big_quiet_op;go_big_quiet_on)
    intro w9 hg
    have HW9:=Lib.hid (HU.out.trans_ext hg.up)
    clear hg e0 e1
    go_wp2_with fail
    go_roundw
    case rel =>
     refine⟨j+1,by omega,?_,by go_num,HW9⟩
     rw [HFE.out]
     exact congrArg Value.string (show ByteArray.mk S.toArray++ByteArray.mk [32,44].toArray++ByteArray.mk [32].toArray++ByteArray.mk Z.toArray++ByteArray.mk [32].toArray++ByteArray.mk x1.toArray=⟨(S++[32,44]++[32]++Z++[32]++x1).toArray⟩ by simp only [ByteArray.mk_append_mk])
    case measure=>simp [intOf];omega
  ·have hgeI:¬(j:Int)<L:=by omega
   have HTA:Hid (f.take j=f):=Lib.hid (List.take_of_length_le (by rw [HL.out];exact hge))
   rw [HTA.out] at hyl ⊢
   have hsl:([102,105,110,100]++frS f).length≤400:=by rw [List.length_append];simp only [List.length_cons,List.length_nil];omega
   obtain⟨S,hS⟩:∃S,[102,105,110,100]++frS f=S:=⟨_,rfl⟩
   rw [hS] at hsl ⊢
   have HSS:=Lib.hid hS
   clear hS
   have sm0:S.length+2≤9223372036854775807:=by omega
   go_wp2_with fail
   go_ret
   exact⟨congrArg (fun z=>Ending.returned (.string z)) (show ByteArray.mk S.toArray++ByteArray.mk [32,58].toArray=⟨R.toArray⟩ by rw [ByteArray.mk_append_mk,←HRR.out,←HSS.out]),HU.out⟩
theorem rnode_calls (nd:Nd) (v:Value) (w:World) (P:Nat→Prop) (h:NdV w P nd v) (hk:kCz nd≤10000000) (hin:inN 10000000 nd):Calls Tryz.prog 47 #[v] w fun e w'=>e=.returned (pairV (nodeF nd))∧Upto [] w w':=by
 have HCQ:=Lib.hid (fun u (hu:Upto [] w u)=>checkR_calls nd v u P (h.ext hu) hk hin)
 have HN:=Lib.hid h
 obtain⟨o1,a1,a2,a3,s1,n1,m1,l1,l2,l3,rfl⟩:=h.six
 have hu1:Upto [] w (w.alloc (.cells #[.int .i64 o1,.slice a1 a2 a3,.int .i64 s1,.int .i64 n1,.int .i64 m1,.slice l1 l2 l3] 25)):=(Upto.refl [] w).alloc _
 have HU1:=Lib.hid hu1
 have hb:=kAq w (.cells #[.int .i64 o1,.slice a1 a2 a3,.int .i64 s1,.int .i64 n1,.int .i64 m1,.slice l1 l2 l3] 25)
 have HB1:=Lib.hid hb
 obtain⟨y0,y1,y2,y3,y4,y5⟩:=kAx hb
 by_cases hR:kSq kBj nd=0
 case neg =>
  obtain⟨R,hR2⟩:∃R,kSq kBj nd=R:=⟨_,rfl⟩
  have HPF:Hid (nodeF nd=([],R)):=Lib.hid (by unfold nodeF;rw [if_neg hR,hR2])
  rw [hR2] at HCQ hR
  have r1:((R:Int)==0)=false:=by rw [beq_eq_false_iff_ne];omega
  have r2:((R:Int) != 0)=true:=by rw [bne,r1];rfl
  clear hR hR2 hin hk hu1 hb h
  go_enter Tryz.func47,Tryz.ntmps47
  go_wp2_with fail
  refine (HCQ.out _ HU1.out).mono ?_
  rintro e w2 ⟨rfl,hu2⟩
  have HU2:=Lib.hid (HU1.out.trans_ext hu2)
  clear hu2
  go_wp2_with fail
  go_ret2
  exact⟨by rw [HPF.out];rfl,HU2.out⟩
 case pos =>
  obtain⟨hob,hg⟩:=check_ok (fun x=>kXz) hR
  have HPF:Hid (nodeF nd=cutP (jn (prT true nd))):=Lib.hid (by unfold nodeF;rw [if_pos hR])
  rw [hR] at HCQ
  have HT:=Lib.hid (rtext_calls _ nd (Nat.le_refl _) hk hob w P _ h true)
  have hlen:=jn_len hob true
  have hl2:(jn (prT true nd)).length≤2000000000:=by omega
  clear hR hin hk hu1 hb h hob hg hlen
  generalize jn (prT true nd)=S at *
  go_enter Tryz.func47,Tryz.ntmps47
  go_wp2_with fail
  refine (HCQ.out _ HU1.out).mono ?_
  rintro e w2 ⟨rfl,hu2⟩
  have HU2:=Lib.hid (HU1.out.trans_ext hu2)
  have hb2:=hu2.at HB1.out (by simp)
  obtain⟨z0,z1,z2,z3,z4,z5⟩:=kAx hb2
  clear hu2 hb2
  go_wp2_with fail
  refine (HT.out _ HU2.out).mono ?_
  rintro e w3 ⟨rfl,hu3⟩
  have HU3:=Lib.hid (HU2.out.trans_ext hu3)
  clear hu3 z0 z1 z2 z3 z4 z5
  have sI:(S.length:Int)≤9223372036854775807:=by omega
  have s0:(ByteArray.mk S.toArray).size=S.length:=rfl
  by_cases hz:65536<S.length
  ·have hzI:(65536:Int)<S.length:=by omega
   have HC:Hid (cutP S=([],2)):=Lib.hid (by unfold cutP;rw [if_pos hz])
   clear hz
   go_wp2_with fail
   go_ret2
   exact⟨by rw [HPF.out,HC.out];rfl,HU3.out⟩
  ·have hzI:¬(65536:Int)<S.length:=by omega
   have HC:Hid (cutP S=(S,0)):=Lib.hid (by unfold cutP;rw [if_neg hz])
   clear hz
   go_wp2_with fail
   go_ret2
   exact⟨by rw [HPF.out,HC.out];rfl,HU3.out⟩
theorem rprint_calls (q:Qn) (v:Value) (w:World) (P:Nat→Prop) (h:QnV w P q v) (hk:kCz q.body≤10000000) (hin:inN 10000000 q.body) (hfn:∀y∈q.free,y.1.length≤10000000):Calls Tryz.prog 44 #[v] w fun e w'=>e=.returned (pairV (kTk q))∧Upto [] w w':=by
 have HCQ:=Lib.hid (fun u (hu:Upto [] w u)=>kTx q v u P (QnV.keep (Keep.upto hu (by simp)) h) hk hin hfn)
 obtain⟨f1,f3,o1,a1,a2,a3,s1,n1,m1,l1,l2,l3,rfl,hv,hn⟩:=h.open
 obtain⟨L,hL⟩:∃L,q.free.length=L:=⟨_,rfl⟩
 rw [hL] at hv HCQ ⊢
 have hu1:Upto [] w (w.alloc (.cells #[.slice f1 L f3,.int .i64 o1,.slice a1 a2 a3,.int .i64 s1,.int .i64 n1,.int .i64 m1,.slice l1 l2 l3] 45)):=(Upto.refl [] w).alloc _
 have HU1:=Lib.hid hu1
 have hb:=kAq w (.cells #[.slice f1 L f3,.int .i64 o1,.slice a1 a2 a3,.int .i64 s1,.int .i64 n1,.int .i64 m1,.slice l1 l2 l3] 45)
 have HB1:=Lib.hid hb
 obtain⟨y0,y1,y2,y3,y4,y5,y6⟩:=kBw hb
 by_cases hR:kIj kBj q=0
 case neg =>
  obtain⟨R,hR2⟩:∃R,kIj kBj q=R:=⟨_,rfl⟩
  have HPF:Hid (kTk q=([],R)):=Lib.hid (by unfold kTk;rw [if_neg hR,hR2])
  rw [hR2] at HCQ hR
  have r1:((R:Int)==0)=false:=by rw [beq_eq_false_iff_ne];omega
  have r2:((R:Int) != 0)=true:=by rw [bne,r1];rfl
  clear hR hR2 hin hfn hk hv hn hu1 hb h
  go_enter Tryz.func44,Tryz.ntmps44
  go_wp2_with fail
  refine (HCQ.out _ HU1.out).mono ?_
  rintro e w2 ⟨rfl,hu2⟩
  have HU2:=Lib.hid (HU1.out.trans_ext hu2)
  clear hu2
  go_wp2_with fail
  go_ret2
  exact⟨by rw [HPF.out];rfl,HU2.out⟩
 case pos =>
  obtain⟨hov,hob,hg⟩:=right_ok (fun x=>kXz) hR
  have HPF:Hid (kTk q=cutP (jn (prQ q))):=Lib.hid (by unfold kTk;rw [if_pos hR])
  rw [hR] at HCQ
  have HT:=Lib.hid (rtext_calls _ q.body (Nat.le_refl _) hk hob w P _ hn true)
  have HF:=Lib.hid (fun u (hu:Upto [] w u)=>rfind_calls q.free _ u P (hv.ext hu) hov)
  have hlen:=jn_len hob true
  have hl2:(jn (prT true q.body)).length≤2000000000:=by omega
  have hlf:=frS_len q.free (fun v hv'=>kUx (hov.2.1 v hv').1)
  have hL8:L≤8:=by have:=hov.1;omega
  have hLI:(L:Int)≤8:=by omega
  have hlf2:([102,105,110,100]++frS q.free++[32,58]).length≤400:=by simp only [List.length_append,List.length_cons,List.length_nil];omega
  by_cases hq:q.free=[]
  ·have HJQ:Hid (jn (prQ q)=jn (prT true q.body)):=Lib.hid (jn_quest0 hq)
   rw [HJQ.out] at HPF
   obtain rfl:L=0:=by rw [←hL,hq];rfl
   clear hR hin hfn hk hv hn hu1 hb h hov hob hg hlen hlf hlf2 hq HF HJQ hL hL8
   generalize jn (prT true q.body)=S at *
   go_enter Tryz.func44,Tryz.ntmps44
   go_wp2_with fail
   refine (HCQ.out _ HU1.out).mono ?_
   rintro e w2 ⟨rfl,hu2⟩
   have HU2:=Lib.hid (HU1.out.trans_ext hu2)
   have hb2:=hu2.at HB1.out (by simp)
   have HB2:=Lib.hid hb2
   obtain⟨z0,z1,z2,z3,z4,z5,z6⟩:=kBw hb2
   clear hu2 hb2
   go_wp2_with fail
   refine (HT.out _ HU2.out).mono ?_
   rintro e w3 ⟨rfl,hu3⟩
   have HU3:=Lib.hid (HU2.out.trans_ext hu3)
   have hb3:=hu3.at HB2.out (by simp)
   clear hu3 z0 z1 z2 z3 z4 z5 z6
   obtain⟨t0,t1,t2,t3,t4,t5,t6⟩:=kBw hb3
   clear hb3
   have sI:(S.length:Int)≤9223372036854775807:=by omega
   have s0:(ByteArray.mk S.toArray).size=S.length:=rfl
   by_cases hz:65536<S.length
   ·have hzI:(65536:Int)<S.length:=by omega
    have HC:Hid (cutP S=([],2)):=Lib.hid (by unfold cutP;rw [if_pos hz])
    clear hz
    go_wp2_with fail
    go_ret2
    exact⟨by rw [HPF.out,HC.out];rfl,HU3.out⟩
   ·have hzI:¬(65536:Int)<S.length:=by omega
    have HC:Hid (cutP S=(S,0)):=Lib.hid (by unfold cutP;rw [if_neg hz])
    clear hz
    go_wp2_with fail
    go_ret2
    exact⟨by rw [HPF.out,HC.out];rfl,HU3.out⟩
  ·have HJQ:Hid (jn (prQ q)=[102,105,110,100]++frS q.free++[32,58]++[32]++jn (prT true q.body)):=Lib.hid (jn_quest hq)
   rw [HJQ.out] at HPF
   have hL0:(0:Int)<L:=by
    have:L≠0:=fun e=>hq (List.eq_nil_of_length_eq_zero (by rw [hL];exact e))
    omega
   clear hR hin hfn hk hv hn hu1 hb h hov hob hg hlen hlf hq HJQ hL hL8
   generalize jn (prT true q.body)=T at *
   generalize [102,105,110,100]++frS q.free++[32,58]=A at *
   go_enter Tryz.func44,Tryz.ntmps44
   go_wp2_with fail
   refine (HCQ.out _ HU1.out).mono ?_
   rintro e w2 ⟨rfl,hu2⟩
   have HU2:=Lib.hid (HU1.out.trans_ext hu2)
   have hb2:=hu2.at HB1.out (by simp)
   have HB2:=Lib.hid hb2
   obtain⟨z0,z1,z2,z3,z4,z5,z6⟩:=kBw hb2
   clear hu2 hb2
   go_wp2_with fail
   refine (HT.out _ HU2.out).mono ?_
   rintro e w3 ⟨rfl,hu3⟩
   have HU3:=Lib.hid (HU2.out.trans_ext hu3)
   have hb3:=hu3.at HB2.out (by simp)
   clear hu3 z0 z1 z2 z3 z4 z5 z6
   obtain⟨t0,t1,t2,t3,t4,t5,t6⟩:=kBw hb3
   clear hb3
   have sm0:A.length+1≤9223372036854775807:=by omega
   have sm1:A.length+1+T.length≤9223372036854775807:=by omega
   go_wp2_with fail
   refine (HF.out _ HU3.out).mono ?_
   rintro e w4 ⟨rfl,hu4⟩
   have HU4:=Lib.hid (HU3.out.trans_ext hu4)
   clear hu4
   have hSA:ByteArray.mk A.toArray++ByteArray.mk #[32]++ByteArray.mk T.toArray=⟨(A++[32]++T).toArray⟩:=by
    rw [show ByteArray.mk #[32]=ByteArray.mk [32].toArray from rfl,ByteArray.mk_append_mk,ByteArray.mk_append_mk]
   have hSL:(A++[32]++T).length=A.length+1+T.length:=by simp only [List.length_append,List.length_cons,List.length_nil]
   have sI:((A.length:Int)+1+(T.length:Int))≤9223372036854775807:=by omega
   by_cases hz:65536<A.length+1+T.length
   ·have hzI:(65536:Int)<(A.length:Int)+1+(T.length:Int):=by omega
    have HC:Hid (cutP (A++[32]++T)=([],2)):=Lib.hid (by unfold cutP;rw [if_pos (by rw [hSL];exact hz)])
    clear hz hSA hSL
    go_wp2_with fail
    go_ret2
    exact⟨by rw [HPF.out,HC.out];rfl,HU4.out⟩
   ·have hzI:¬(65536:Int)<(A.length:Int)+1+(T.length:Int):=by omega
    have HC:Hid (cutP (A++[32]++T)=(A++[32]++T,0)):=Lib.hid (by unfold cutP;rw [if_neg (by rw [hSL];exact hz)])
    have HSA:=Lib.hid hSA
    clear hz hSA hSL
    go_wp2_with fail
    go_ret2
    exact⟨by rw [HPF.out,HC.out];unfold pairV;simp only;rw [←HSA.out];rfl,HU4.out⟩
theorem printerPrint_walk (q:Qn) (v:Value) (w:World) (hq:ArgQ w q v) (hE:Env w∧SEnv w∧FEnv w∧PEnv w):Calls Tryz.prog 9 #[v] w fun e w'=>e=.returned (.bool true)∧Upto [] w w':=by
 have hf:=hq.facts
 have HEE:=Lib.hid (fun u (hu:Upto [] w u)=>EnvP.ext hE hu)
 have HK:Hid (∀u,Upto [] w u→Calls Tryz.prog 42 #[] u fun e w'=>e=.returned (.bool true)∧Upto [] u w'):=Lib.hid (fun u hu=>kTw u (HEE.out u hu))
 have HAS:=Lib.hid (fun u (hu:Upto [] w u)=>kVw q v u AnyB (hf.ext hu).val hf.sz hf.big hf.fl hf.fn)
 have HOF:=Lib.hid (fun u (hu:Upto [] w u)=>ofq_calls q v u AnyB (hf.ext hu).val hf.sz hf.big hf.fl)
 have HRP:=Lib.hid (fun u (hu:Upto [] w u)=>rprint_calls q v u AnyB (hf.ext hu).val hf.sz hf.ins hf.fn)
 have HSZ:=Lib.hid (And.intro hf.sz (And.intro hf.ins hf.fn))
 obtain⟨f1,f3,o1,a1,a2,a3,s1,n1,m1,l1,l2,l3,rfl,hv,hn⟩:=hf.val.open
 have HON:=Lib.hid (fun u (hu:Upto [] w u)=>of_calls _ q.body hf.sz (Nat.le_refl _) hf.big AnyB _ u (hn.ext hu))
 have HRN:=Lib.hid (fun u (hu:Upto [] w u)=>rnode_calls q.body _ u AnyB (hn.ext hu) hf.sz hf.ins)
 obtain⟨L,hL⟩:∃L,q.free.length=L:=⟨_,rfl⟩
 rw [hL] at HAS HOF HRP ⊢
 have hu1:Upto [] w (w.alloc (.cells #[.slice f1 L f3,.int .i64 o1,.slice a1 a2 a3,.int .i64 s1,.int .i64 n1,.int .i64 m1,.slice l1 l2 l3] 45)):=(Upto.refl [] w).alloc _
 have HU1:=Lib.hid hu1
 have hb:=kAq w (.cells #[.slice f1 L f3,.int .i64 o1,.slice a1 a2 a3,.int .i64 s1,.int .i64 n1,.int .i64 m1,.slice l1 l2 l3] 45)
 have HB1:=Lib.hid hb
 obtain⟨y0,y1,y2,y3,y4,y5,y6⟩:=kBw hb
 have hbb:kVx q=true∨kVx q=false:=by cases kVx q<;>simp
 clear hq hf hE hv hn hu1 hb hL
 rcases hbb with ha | ha
 case inr =>
  rw [ha] at HAS
  clear ha
  go_enter Tryz.func9,Tryz.ntmps9
  go_wp2_with fail
  refine (HAS.out _ HU1.out).mono ?_
  rintro e w2 ⟨rfl,hu2⟩
  have HU2:=Lib.hid (HU1.out.trans_ext hu2)
  clear hu2
  go_wp2_with fail
  refine (HK.out _ HU2.out).mono ?_
  rintro e w3 ⟨rfl,hu3⟩
  have HU3:=Lib.hid (HU2.out.trans_ext hu3)
  clear hu3
  go_wp2_with fail
  go_ret
  exact⟨rfl,HU3.out⟩
 case inl =>
  rw [ha] at HAS
  clear ha
  go_enter Tryz.func9,Tryz.ntmps9
  go_wp2_with fail
  refine (HAS.out _ HU1.out).mono ?_
  rintro e w2 ⟨rfl,hu2⟩
  have HU2:=Lib.hid (HU1.out.trans_ext hu2)
  have HB2:=Lib.hid (hu2.at HB1.out (by simp))
  have hb2:=HB2.out
  clear y0 y1 y2 y3 y4 y5 y6
  obtain⟨z0,z1,z2,z3,z4,z5,z6⟩:=kBw hb2
  clear hu2 hb2
  go_wp2_with fail
  refine (HOF.out _ HU2.out).mono ?_
  rintro e w3 ⟨v3,rfl,hq3,hu3⟩
  have HQ3:=Lib.hid hq3
  have HU3:=Lib.hid (HU2.out.trans_ext hu3)
  have HB3:=Lib.hid (hu3.at HB2.out (by simp))
  obtain⟨x1,x3,xo,xa1,xa2,xa3,xs,xn,xm,xl1,xl2,xl3,rfl,-,-⟩:=hq3.open
  clear hq3 hu3 z0 z1 z2 z3 z4 z5 z6
  go_wp2_with fail
  refine (print_calls q _ w3 (New w2) HQ3.out HSZ.out.1 HSZ.out.2.1 HSZ.out.2.2 (HEE.out _ HU3.out)).mono ?_
  rintro e w4 ⟨rfl,hu4⟩
  have HU4:=Lib.hid (HU3.out.trans_ext hu4)
  have HB4:=Lib.hid (hu4.at HB3.out (by simp))
  have hb4:=HB4.out
  obtain⟨z0,z1,z2,z3,z4,z5,z6⟩:=kBw hb4
  clear hu4 hb4
  obtain⟨⟨r1,r2⟩,hr⟩:∃r,kTk q=r:=⟨_,rfl⟩
  rw [hr] at HRP ⊢
  clear hr
  unfold pairV at HRP ⊢
  simp only at HRP ⊢
  go_wp2_with fail
  refine (HRP.out _ HU4.out).mono ?_
  rintro e w5 ⟨rfl,hu5⟩
  have HU5:=Lib.hid (HU4.out.trans_ext hu5)
  have HB5:=Lib.hid (hu5.at HB4.out (by simp))
  have hb5:=HB5.out
  clear z0 z1 z2 z3 z4 z5 z6
  obtain⟨z0,z1,z2,z3,z4,z5,z6⟩:=kBw hb5
  clear hu5 hb5
  go_wp2_with fail
  refine (HON.out _ HU5.out).mono ?_
  rintro e w6 ⟨v6,rfl,hn6,hu6⟩
  have HN6:=Lib.hid hn6
  have HU6:=Lib.hid (HU5.out.trans_ext hu6)
  have HB6:=Lib.hid (hu6.at HB5.out (by simp))
  obtain⟨g0,g1,g2,g3,g4,g5,g6,g7,g8,g9,rfl⟩:=hn6.six
  clear hn6 hu6 z0 z1 z2 z3 z4 z5 z6
  go_wp2_with fail
  refine (pnode_calls q.body _ w6 (New w5) HN6.out HSZ.out.1 HSZ.out.2.1 (HEE.out _ HU6.out)).mono ?_
  rintro e w7 ⟨rfl,hu7⟩
  have HU7:=Lib.hid (HU6.out.trans_ext hu7)
  have hb7:=hu7.at HB6.out (by simp)
  obtain⟨z0,z1,z2,z3,z4,z5,z6⟩:=kBw hb7
  clear hu7 hb7
  obtain⟨⟨t1,t2⟩,ht⟩:∃r,nodeF q.body=r:=⟨_,rfl⟩
  rw [ht] at HRN ⊢
  clear ht
  unfold pairV at HRN ⊢
  simp only at HRN ⊢
  go_wp2_with fail
  refine (HRN.out _ HU7.out).mono ?_
  rintro e w8 ⟨rfl,hu8⟩
  have HU8:=Lib.hid (HU7.out.trans_ext hu8)
  clear hu8 z0 z1 z2 z3 z4 z5 z6
  go_wp2_with fail
  refine (HK.out _ HU8.out).mono ?_
  rintro e w9 ⟨rfl,hu9⟩
  have HU9:=Lib.hid (HU8.out.trans_ext hu9)
  clear hu9
  go_wp2_with fail
  go_ret
  exact⟨rfl,HU9.out⟩
end Go.Proofs.YtkhbpebpljdifaaGreatDoor
