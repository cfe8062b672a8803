/- Merged texts. -/
import Derived.Test.YtkhbpebpljdifaaGreatDoorMPrd
import Derived.Shelf.Strings.OnBuilder
set_option maxRecDepth 100000
set_option maxHeartbeats 25600000
namespace Go.Proofs.YtkhbpebpljdifaaGreatDoor
open Go.RowKit Go.PL Go.Maps
structure FrI (w:World) (p:Nat) (l:List Tok) (s t:PS) (out:List (List UInt8×Int)) (v:Value) (wr:World):Prop where
 rd:RdAt wr p l t
 up:Upto [p] w wr
 adv:Adv l s t
 row:wr.ownsRow 0 86 2 v out.length (out.flatMap varC)
 own:∀g,v.ownBlock=some g→w.heap.size≤g
 ne:p<w.heap.size
theorem FrI.go {w:World} {p:Nat} {l:List Tok} {s t t':PS} {out:List (List UInt8×Int)} {v:Value} {wr wr':World} (h:FrI w p l s t out v wr) (hu:Upto [p] wr wr') (hR:RdAt wr' p l t') (ha:Adv l t t'):FrI w p l s t' out v wr':=by
 have h1:=h.ne
 exact⟨hR,h.up.trans_same hu,h.adv.trans ha,kIx h.row hu (fun g hg=>by have:=h.own g hg;simp;omega),h.own,h.ne⟩
theorem FrI.set {w:World} {p B:Nat} {l:List Tok} {s t:PS} {out:List (List UInt8×Int)} {v:Value} {wr wr':World} (h:FrI w p l s t out v wr) (hu:Upto [B] wr wr') (hB:p<B∧w.heap.size≤B) (hne:∀g,v.ownBlock=some g→g≠B):FrI w p l s t out v wr' :=
 ⟨h.rd.above hu (fun k hk=>by simp at hk;omega),h.up.trans hu (fun k hk=>Or.inr (by simp at hk;omega)),h.adv,kIx h.row hu (fun g hg=>by simpa using hne g hg),h.own,h.ne⟩
theorem identR_er {l:List Tok} {s:PS} (h:(kAj l s).2.er=0):s.er=0∧(tkAt l s).kind=1:=by
 unfold kAj at h
 by_cases hk:(tkAt l s).kind=1
 ·refine⟨?_,hk⟩
  simp only [if_pos hk] at h
  by_cases h0:s.er=0
  ·exact h0
  ·simp only [if_neg h0] at h
   exact absurd h h0
 ·simp only [if_neg hk,if_neg (kLk (by decide:(3:Nat)≠0) s)] at h
  exact absurd h (kLk (by decide) s)
theorem FrI.app {w:World} {p:Nat} {l:List Tok} {s t:PS} {out:List (List UInt8×Int)} {v:Value} {wr w5:World} {x:List UInt8×Int} {b':Option Addr} {c':Nat} {o:Obj} (h:FrI w p l s t out v wr)
  (ho:w5.ownsRow 0 86 2 (.slice b' (out.length+1) c') (out.length+1) (out.flatMap varC++varC x)) (hu:Upto v.ownBlock.toList (wr.alloc o) w5) (hw:∀g,(Value.slice b' (out.length+1) c').ownBlock=some g→v.ownBlock=some g∨(wr.alloc o).heap.size≤g) :
  FrI w p l s t (out++[x]) (.slice b' (out.length+1) c') w5:=by
 have hua:Upto [] wr (wr.alloc o):=(Upto.refl [] wr).alloc _
 have hp:=h.ne
 have hus:=h.up.size
 have hvs:∀g∈v.ownBlock.toList,w.heap.size≤g:=fun g hm=>h.own g (Option.mem_toList.1 hm)
 refine⟨(h.rd.ext hua).above hu (fun k hk=>by have:=hvs k hk;omega),(h.up.trans_ext hua).trans hu (fun k hk=>Or.inr (hvs k hk)),h.adv,?_,fun g hg=>?_,hp⟩
 ·rw [List.length_append,List.flatMap_append]
  simpa using ho
 ·rcases hw g hg with h1 | h1
  ·exact h.own g h1
  ·simp at h1;omega
def VarsV (w:World) (P:Nat→Prop) (v:Value) (out:List (List UInt8×Int)):Prop:=SlP w P v out.length (out.flatMap varC)
def FrPost (w:World) (p:Nat) (l:List Tok) (s:PS) (r:List (List UInt8×Int)) (s':PS) (e:Ending) (w':World):Prop :=
 ∃v,e=.returned v∧VarsV w' (New w) v r∧RdAt w' p l s'∧Upto [p] w w'∧Adv l s s'
theorem slP_rowN {w:World} {P:Nat→Prop} {e:TypeId} {z:Nat} {v:Value} {n:Nat} {xs:List Value} (h:w.ownsRow 0 e z v n xs) (hP:∀g,v.ownBlock=some g→P g):SlP w P v n xs:=by
 rcases h.2 with⟨rfl,rfl⟩ | ⟨g,cap,cur,rfl,_,hh,hnc,_,_,ht⟩
 ·exact Or.inl ⟨rfl,List.eq_nil_of_length_eq_zero (by simpa using h.1),none,0,rfl⟩
 ·refine Or.inr ⟨g,0,cap,rfl,⟨hP g rfl,⟨_,_,_,hh⟩,hnc⟩,?_⟩
  intro j u hj
  rw [kAz hh,Nat.zero_add]
  rw [←ht,List.getElem?_take] at hj
  split at hj
  ·simpa using hj
  ·cases hj
theorem FrI.post {w:World} {p:Nat} {l:List Tok} {s t:PS} {out:List (List UInt8×Int)} {v:Value} {wr:World} (h:FrI w p l s t out v wr):FrPost w p l s out t (.returned v) wr:=⟨v,rfl,slP_rowN h.row (fun g hg=>h.own g hg),h.rd,h.up,h.adv⟩
theorem info92:(Tryz.prog.info? 86).map (fun i=>(i.zero,i.size,i.bytes))=some (some (.agg #[.string ⟨#[]⟩,.int .i64 0]),2,24):=by kernel_rfl
theorem info92':∃i,Tryz.prog.info? 86=some i∧i.zero=some (.agg #[.string ⟨#[]⟩,.int .i64 0])∧i.size=2∧i.bytes=24:=by
 have h:=info92
 cases hi:Tryz.prog.info? 86 with
 | none=>rw [hi] at h;cases h
 | some i =>
  rw [hi] at h
  simp only [Option.map_some,Option.some.injEq,Prod.mk.injEq] at h
  exact⟨i,rfl,h.1,h.2.1,h.2.2⟩
theorem two_at {w:World} {g:Nat} {v0 v1:Value} {t:TypeId} {z:Nat×Nat} (h:w.heap[g]?=some (.cells #[v0,v1] t z)):∀(j:Nat) u,[v0,v1][j]?=some u→w.cell? ((⟨g,0,none⟩:Addr).add j)=some u:=by
 intro j u hj
 rw [Addr.add_lit,Nat.zero_add,kAz h]
 simpa using hj
theorem free_calls (w:World) (p:Nat) (l:List Tok) (s s':PS) (r:List (List UInt8×Int)) (hx:Cx w p l) (h:RdAt w p l s) (he:freeP l s=some (r,s')) :
  Calls Tryz.prog 68 #[.pointer (some ⟨p,0,none⟩)] w (FrPost w p l s r s'):=by
 have hlen:=hx.len
 have hin:=h.inb
 have HF:Hid (Fin l):=Lib.hid h.fin
 have HX:=Lib.hid hx
 have hp:=h.lt
 have HC:=Lib.hid (kEj w p l s [102,105,110,100] h hlen)
 unfold freeP at he
 cases hv:isF l [102,105,110,100] s with
 | false =>
  rw [hv] at HC he
  have HT:Hid ((kDz l [102,105,110,100] s).2=s):=Lib.hid (by unfold kDz;rw [hv];rfl)
  simp at he
  obtain⟨rfl,rfl⟩:=he
  clear hv hx h
  go_enter Tryz.func68,Tryz.ntmps68
  go_wp2_with fail
  refine HC.out.mono ?_
  rintro e w1 ⟨rfl,hR1,hu1⟩
  rw [HT.out] at hR1
  have HP:=Lib.hid (show FrPost w p l s [] s (.returned (.slice none 0 0)) w1 from⟨_,rfl,Or.inl ⟨rfl,rfl,none,0,rfl⟩,hR1,hu1,Adv.refl hin⟩)
  clear hR1 hu1
  go_wp2_with fail
  go_ret
  exact HP.out
 | true =>
  rw [hv] at HC he
  simp only [if_true] at he
  have HT:Hid ((kDz l [102,105,110,100] s).2=kBx s):=Lib.hid (by unfold kDz;rw [if_pos hv])
  have HA:=Lib.hid (Adv.step HF.out hin (kRx hv))
  have HE:=Lib.hid he
  obtain⟨i0,hi0,hz0,hz1,hz2⟩:=info92'
  clear hv hx h he
  go_enter Tryz.func68,Tryz.ntmps68
  go_wp2_with fail
  refine HC.out.mono ?_
  rintro e w1 ⟨rfl,hR1,hu1⟩
  rw [HT.out] at hR1
  have HL0:Hid (∃k out t v,kNz l k out t=some (r,s')∧v=.slice none 0 0∧FrI w p l s t out v w1∧out.length≤8):=Lib.hid ⟨_,[],kBx s,_,HE.out,rfl,⟨hR1,hu1,HA.out,World.ownsRow_nil _ _ _ _,(fun g hg=>by cases hg),hp⟩,by simp⟩
  clear hR1 hu1 HC HT HE HA
  go_wp2_with fail
  go_loopw [3] (fun v3 wr=>Hid (∃k out t v,kNz l k out t=some (r,s')∧v=v3∧FrI w p l s t out v wr∧out.length≤8)) (fun _ wr=>l.length-nxOf wr p)
  case atStart=>exact HL0.out.elim fun k hk=>hk.elim fun out ho=>ho.elim fun t ht=>ht.elim fun v hv=>Lib.hid ⟨k,out,t,v,hv.1,hv.2.1,hv.2.2⟩
  case round =>
   obtain⟨k,out,t,v,hl,rfl,hI,h8⟩:=hrel.out
   obtain⟨va,vc,rfl,-⟩:=kJj hI.row
   clear hrel HL0
   cases k with
   | zero=>unfold kNz at hl;cases hl
   | succ k =>
   unfold kNz at hl
   have HI:=Lib.hid hI
   have HNX:=Lib.hid hI.rd.nx
   obtain⟨⟨vr,hb,-,-⟩,-,-⟩:=id hI.rd
   have b2:=kAz hb 2
   unfold rdC at b2
   simp only [List.getElem?_toArray,List.getElem?_cons_zero,List.getElem?_cons_succ] at b2
   clear hb
   by_cases h0:t.er=0
   ·have k0:((t.er:Int)==0)=true:=by simp [h0]
    rw [if_pos h0] at hl
    simp only at hl
    have HS:=Lib.hid (sort_calls wr p l t (HX.out.upto hI.up) hI.rd)
    have hx8:(0:Int)≤out.length:=by omega
    have H8:=Lib.hid h8
    obtain⟨tk,tx,tv,tl,tc,hT⟩:∃tk tx tv tl tc,tkAt l (kBz l t).2=⟨tk,tx,tv,tl,tc⟩:=⟨_,_,_,_,_,rfl⟩
    have HTK:=Lib.hid hT
    rw [hT] at hl
    simp only at hl
    clear hI hT
    by_cases h1:tk=1
    ·have k1:((tk:Int)==1)=true:=by simp [h1]
     rw [if_pos h1] at hl
     by_cases h2:out.length=8
     ·have k2:((out.length:Int)==8)=true:=by simp [h2]
      rw [if_pos h2] at hl
      have HL:=Lib.hid hl
      clear hl h0 h1 h2
      go_wp2_with fail
      refine HS.out.mono ?_
      rintro e w2 ⟨rfl,hR2,hu2⟩
      have hI2:=HI.out.go hu2 hR2 (kOz HF.out HI.out.rd.inb)
      have hua:=(Upto.refl [] w2).alloc (.cells #[.string ⟨#[]⟩,.int .i64 (kBz l t).1] 86)
      have HI2:=Lib.hid (hI2.go (hua.mono (by simp)) (hR2.ext hua) (Adv.refl hI2.rd.inb))
      have HV2:Hid ((w2.alloc (.cells #[.string ⟨#[]⟩,.int .i64 (kBz l t).1] 86)).heap[w2.heap.size]?=some (.cells #[.string ⟨#[]⟩,.int .i64 (kBz l t).1] 86 (0,0))):=Lib.hid (kAq _ _)
      have HUW2:Hid (w.heap.size≤w2.heap.size):=Lib.hid hI2.up.size
      have HPV:Hid (p<w2.heap.size):=Lib.hid (by have:=hI2.up.size;have:=hI2.ne;omega)
      have HOWN:Hid (∀g,(Value.slice va out.length vc).ownBlock=some g→g≠w2.heap.size):=Lib.hid (fun g hg=>by
       obtain⟨cur,hh⟩:=kOq hI2.row hg
       have:=kAk hh
       omega)
      have HSA:=Lib.hid (kOz HF.out HI.out.rd.inb)
      have HN:=Lib.hid (kHw (w2.alloc (.cells #[.string ⟨#[]⟩,.int .i64 (kBz l t).1] 86)) p l (kBz l t).2 HI2.out.rd)
      clear hR2 hu2 hI2 hua HS b2
      go_wp2_with fail
      refine HN.out.mono ?_
      rintro e w3 ⟨rfl,hu3⟩
      rw [HTK.out]
      unfold tkA
      have hub:=(Upto.refl [] w3).alloc (.cells #[.int .i64 tk,.string ⟨tx.toArray⟩,.int .i64 tv,.int .i64 tl,.int .i64 tc] 83)
      have HI3:=Lib.hid ((HI2.out.go (hu3.mono (by simp)) (HI2.out.rd.ext hu3) (Adv.refl HI2.out.rd.inb)).go (hub.mono (by simp)) ((HI2.out.rd.ext hu3).ext hub) (Adv.refl HI2.out.rd.inb))
      have HT3:Hid ((w3.alloc (.cells #[.int .i64 tk,.string ⟨tx.toArray⟩,.int .i64 tv,.int .i64 tl,.int .i64 tc] 83)).heap[w3.heap.size]?=some (.cells #[.int .i64 tk,.string ⟨tx.toArray⟩,.int .i64 tv,.int .i64 tl,.int .i64 tc] 83 (0,0))):=Lib.hid (kAq _ _)
      have HV3:=Lib.hid (hub.at (hu3.at HV2.out (by simp)) (by simp))
      clear hu3 hub HN HV2
      go_wp2_with fail
      refine (kLj _ p 8 l (kBz l t).2 HI3.out.rd).mono ?_
      rintro e w4 ⟨rfl,hR4,hu4⟩
      have HI4:=Lib.hid (HI3.out.go hu4 hR4 (Adv.wrong HI3.out.rd.inb 8))
      have HV4:=Lib.hid (hu4.at HV3.out (by have:=HPV.out;simp;omega))
      clear hR4 hu4
      go_wp2_with fail
      refine (kMx _ p l (kCk 8 (kBz l t).2) HI4.out.rd hlen).mono ?_
      rintro e w5 ⟨rfl,hR5,hu5⟩
      have hI5:=HI4.out.go hu5 hR5 (kEq HF.out HI4.out.rd.inb).1
      have hv5:=hu5.at HV4.out (by have:=HPV.out;simp;omega)
      obtain⟨ca0,ca1⟩:=kKx hv5
      obtain⟨fa0,fa1⟩:=kRz hv5
      have hs6:=(Upto.refl [w2.heap.size] w5).setCell (p:=⟨w2.heap.size,0,none⟩) (Or.inl (by simp)) (.string ⟨(kAj l (kCk 8 (kBz l t).2)).1.toArray⟩)
      have hv6:=kCw hv5 0 (.string ⟨(kAj l (kCk 8 (kBz l t).2)).1.toArray⟩)
      simp only [List.setIfInBounds_toArray,List.set_cons_zero] at hv6
      obtain⟨cb0,cb1⟩:=kKx hv6
      obtain⟨fb0,fb1⟩:=kRz hv6
      have HI6:=Lib.hid (hI5.set hs6 (by have h1:=HPV.out;have h2:=hI5.ne;have h3:=HUW2.out;omega) HOWN.out)
      have hnx:((w5.setCell ⟨w2.heap.size,0,none⟩ (.string ⟨(kAj l (kCk 8 (kBz l t).2)).1.toArray⟩)).alloc (.cells #[.string ⟨(kAj l (kCk 8 (kBz l t).2)).1.toArray⟩,.int .i64 (kBz l t).1] 86)).heap[w5.heap.size]?=some (.cells #[.string ⟨(kAj l (kCk 8 (kBz l t).2)).1.toArray⟩,.int .i64 (kBz l t).1] 86 (0,0)):=by
       have:=kAq (w5.setCell ⟨w2.heap.size,0,none⟩ (.string ⟨(kAj l (kCk 8 (kBz l t).2)).1.toArray⟩)) (.cells #[.string ⟨(kAj l (kCk 8 (kBz l t).2)).1.toArray⟩,.int .i64 (kBz l t).1] 86)
       simpa [World.setCell] using this
      have HNX6:=Lib.hid hnx
      have h8b:=H8.out
      clear hR5 hu5 hI5 hv5 hs6 hv6 hnx
      go_wp2_with (at_builtin
                   refine kHk _ rfl (.tmp 37) (.tmp 39) 46 rfl 86 i0 (.agg #[.string ⟨#[]⟩,.int .i64 0]) 2 24 Tryz.underlying46 hi0 hz0 hz1 hz2 rfl (by decide) (.slice va out.length vc) out.length (out.flatMap varC) rfl (HI6.out.row.alloc _) ⟨w5.heap.size,0,none⟩ 1 1 [.string ⟨(kAj l (kCk 8 (kBz l t).2)).1.toArray⟩,.int .i64 (kBz l t).1] rfl rfl (two_at HNX6.out) (by simp [Value.oneCell']) (by unfold maxLen;omega) (by omega) ?_
                   intro b7 c7 w7 ho7 hu7 hw7)
      have HI7:=Lib.hid (FrI.app (x:=((kAj l (kCk 8 (kBz l t).2)).1,(kBz l t).1)) HI6.out ho7 hu7 hw7)
      clear ho7 hu7 hw7
      cases hc:isF l [44] (kAj l (kCk 8 (kBz l t).2)).2 with
      | true =>
       have HC:=Lib.hid (kEj w7 p l (kAj l (kCk 8 (kBz l t).2)).2 [44] HI7.out.rd hlen)
       rw [hc] at HC
       have hl:=HL.out
       rw [hc] at hl
       simp only [if_true] at hl
       have HT:Hid ((kDz l [44] (kAj l (kCk 8 (kBz l t).2)).2).2=kBx (kAj l (kCk 8 (kBz l t).2)).2):=Lib.hid (by unfold kDz;rw [if_pos hc])
       have HA:=Lib.hid (Adv.step HF.out HI7.out.rd.inb (kRx hc))
       have HID:=Lib.hid ((kEq HF.out HI4.out.rd.inb).2 (isF_er hc))
       have H7:Hid (out.length≤7):=Lib.hid (by
        have he0:=identR_er (isF_er hc)
        exact absurd he0.1 (kLk (by decide) _))
       have HLL:=Lib.hid hl
       clear hc hl
       refine HC.out.mono ?_
       rintro e w8 ⟨rfl,hR8,hu8⟩
       rw [HT.out] at hR8
       have HI8:=Lib.hid (HI7.out.go hu8 hR8 HA.out)
       clear hR8 hu8
       go_wp2_with fail
       refine⟨Lib.hid ⟨k,out++[((kAj l (kCk 8 (kBz l t).2)).1,(kBz l t).1)],kBx (kAj l (kCk 8 (kBz l t).2)).2,_,HLL.out,rfl,HI8.out,by have:=H7.out;simp;omega⟩,?_⟩
       have q1:=HI8.out.rd.nx
       have q2:=HNX.out
       have q3:=HID.out
       have q4:=HI8.out.rd.inb
       have q5:(kBx (kAj l (kCk 8 (kBz l t).2)).2).nx=(kAj l (kCk 8 (kBz l t).2)).2.nx+1:=rfl
       have q6:=HSA.out.le
       have q7:=kPw 8 (kBz l t).2
       rw [q1,q2]
       omega
      | false =>
       have HC:=Lib.hid (kEj w7 p l (kAj l (kCk 8 (kBz l t).2)).2 [44] HI7.out.rd hlen)
       rw [hc] at HC
       have hl:=HL.out
       rw [hc] at hl
       simp only [Bool.false_eq_true,if_false,Option.some.injEq,Prod.mk.injEq] at hl
       have HT:Hid ((kDz l [44] (kAj l (kCk 8 (kBz l t).2)).2).2=(kAj l (kCk 8 (kBz l t).2)).2):=Lib.hid (by unfold kDz;rw [hc];rfl)
       obtain⟨rfl,rfl⟩:=hl
       clear hc
       refine HC.out.mono ?_
       rintro e w8 ⟨rfl,hR8,hu8⟩
       rw [HT.out] at hR8
       have HI8:=Lib.hid (HI7.out.go hu8 hR8 (Adv.refl HI7.out.rd.inb))
       clear hR8 hu8
       go_wp2_with fail
       refine (kSk w8 p l _ [58] HI8.out.rd hlen).mono ?_
       rintro e w9 ⟨rfl,hR9,hu9⟩
       have HP:=Lib.hid (HI8.out.go hu9 hR9 (kNq HF.out HI8.out.rd.inb)).post
       clear hR9 hu9
       go_wp2_with fail
       go_ret
       exact HP.out
     ·have k2:((out.length:Int)==8)=false:=by rw [beq_eq_false_iff_ne];omega
      rw [if_neg h2] at hl
      cases ha:(out.any fun o=>decide (o.1=tx)) with
      | true =>
       simp only [ha,if_true] at hl
       have HL:=Lib.hid hl
       clear hl h0 h1
       go_wp2_with fail
       refine HS.out.mono ?_
       rintro e w2 ⟨rfl,hR2,hu2⟩
       have hI2:=HI.out.go hu2 hR2 (kOz HF.out HI.out.rd.inb)
       have hua:=(Upto.refl [] w2).alloc (.cells #[.string ⟨#[]⟩,.int .i64 (kBz l t).1] 86)
       have HI2:=Lib.hid (hI2.go (hua.mono (by simp)) (hR2.ext hua) (Adv.refl hI2.rd.inb))
       have HV2:Hid ((w2.alloc (.cells #[.string ⟨#[]⟩,.int .i64 (kBz l t).1] 86)).heap[w2.heap.size]?=some (.cells #[.string ⟨#[]⟩,.int .i64 (kBz l t).1] 86 (0,0))):=Lib.hid (kAq _ _)
       have HUW2:Hid (w.heap.size≤w2.heap.size):=Lib.hid hI2.up.size
       have HPV:Hid (p<w2.heap.size):=Lib.hid (by have:=hI2.up.size;have:=hI2.ne;omega)
       have HOWN:Hid (∀g,(Value.slice va out.length vc).ownBlock=some g→g≠w2.heap.size):=Lib.hid (fun g hg=>by
        obtain⟨cur,hh⟩:=kOq hI2.row hg
        have:=kAk hh
        omega)
       have HSA:=Lib.hid (kOz HF.out HI.out.rd.inb)
       have HN:=Lib.hid (kHw (w2.alloc (.cells #[.string ⟨#[]⟩,.int .i64 (kBz l t).1] 86)) p l (kBz l t).2 HI2.out.rd)
       clear hR2 hu2 hI2 hua HS b2
       go_wp2_with fail
       refine HN.out.mono ?_
       rintro e w3 ⟨rfl,hu3⟩
       rw [HTK.out]
       unfold tkA
       have hub:=(Upto.refl [] w3).alloc (.cells #[.int .i64 tk,.string ⟨tx.toArray⟩,.int .i64 tv,.int .i64 tl,.int .i64 tc] 83)
       have HI3:=Lib.hid ((HI2.out.go (hu3.mono (by simp)) (HI2.out.rd.ext hu3) (Adv.refl HI2.out.rd.inb)).go (hub.mono (by simp)) ((HI2.out.rd.ext hu3).ext hub) (Adv.refl HI2.out.rd.inb))
       have HT3:Hid ((w3.alloc (.cells #[.int .i64 tk,.string ⟨tx.toArray⟩,.int .i64 tv,.int .i64 tl,.int .i64 tc] 83)).heap[w3.heap.size]?=some (.cells #[.int .i64 tk,.string ⟨tx.toArray⟩,.int .i64 tv,.int .i64 tl,.int .i64 tc] 83 (0,0))):=Lib.hid (kAq _ _)
       have HV3:=Lib.hid (hub.at (hu3.at HV2.out (by simp)) (by simp))
       clear hu3 hub HN HV2
       have HCT:=Lib.hid (contains_calls out tx tk tv tl tc w3.heap.size _ _ (by have:=H8.out;omega) HI3.out.row HT3.out)
       rw [ha] at HCT
       clear ha
       go_wp2_with fail
       refine HCT.out.mono ?_
       rintro e w3' ⟨rfl,hu3'⟩
       have HI3':=Lib.hid (HI3.out.go (hu3'.mono (by simp)) (HI3.out.rd.ext hu3') (Adv.refl HI3.out.rd.inb))
       have HV3':=Lib.hid (hu3'.at HV3.out (by simp))
       clear hu3'
       go_wp2_with fail
       refine (kLj _ p 7 l (kBz l t).2 HI3'.out.rd).mono ?_
       rintro e w4 ⟨rfl,hR4,hu4⟩
       have HI4:=Lib.hid (HI3'.out.go hu4 hR4 (Adv.wrong HI3'.out.rd.inb 7))
       have HV4:=Lib.hid (hu4.at HV3'.out (by have:=HPV.out;simp;omega))
       clear hR4 hu4
       go_wp2_with fail
       refine (kMx _ p l (kCk 7 (kBz l t).2) HI4.out.rd hlen).mono ?_
       rintro e w5 ⟨rfl,hR5,hu5⟩
       have hI5:=HI4.out.go hu5 hR5 (kEq HF.out HI4.out.rd.inb).1
       have hv5:=hu5.at HV4.out (by have:=HPV.out;simp;omega)
       obtain⟨ca0,ca1⟩:=kKx hv5
       obtain⟨fa0,fa1⟩:=kRz hv5
       have hs6:=(Upto.refl [w2.heap.size] w5).setCell (p:=⟨w2.heap.size,0,none⟩) (Or.inl (by simp)) (.string ⟨(kAj l (kCk 7 (kBz l t).2)).1.toArray⟩)
       have hv6:=kCw hv5 0 (.string ⟨(kAj l (kCk 7 (kBz l t).2)).1.toArray⟩)
       simp only [List.setIfInBounds_toArray,List.set_cons_zero] at hv6
       obtain⟨cb0,cb1⟩:=kKx hv6
       obtain⟨fb0,fb1⟩:=kRz hv6
       have HI6:=Lib.hid (hI5.set hs6 (by have h1:=HPV.out;have h2:=hI5.ne;have h3:=HUW2.out;omega) HOWN.out)
       have hnx:((w5.setCell ⟨w2.heap.size,0,none⟩ (.string ⟨(kAj l (kCk 7 (kBz l t).2)).1.toArray⟩)).alloc (.cells #[.string ⟨(kAj l (kCk 7 (kBz l t).2)).1.toArray⟩,.int .i64 (kBz l t).1] 86)).heap[w5.heap.size]?=some (.cells #[.string ⟨(kAj l (kCk 7 (kBz l t).2)).1.toArray⟩,.int .i64 (kBz l t).1] 86 (0,0)):=by
        have:=kAq (w5.setCell ⟨w2.heap.size,0,none⟩ (.string ⟨(kAj l (kCk 7 (kBz l t).2)).1.toArray⟩)) (.cells #[.string ⟨(kAj l (kCk 7 (kBz l t).2)).1.toArray⟩,.int .i64 (kBz l t).1] 86)
        simpa [World.setCell] using this
       have HNX6:=Lib.hid hnx
       have h8b:=H8.out
       clear hR5 hu5 hI5 hv5 hs6 hv6 hnx
       go_wp2_with (at_builtin
                    refine kHk _ rfl (.tmp 37) (.tmp 39) 46 rfl 86 i0 (.agg #[.string ⟨#[]⟩,.int .i64 0]) 2 24 Tryz.underlying46 hi0 hz0 hz1 hz2 rfl (by decide) (.slice va out.length vc) out.length (out.flatMap varC) rfl (HI6.out.row.alloc _) ⟨w5.heap.size,0,none⟩ 1 1 [.string ⟨(kAj l (kCk 7 (kBz l t).2)).1.toArray⟩,.int .i64 (kBz l t).1] rfl rfl (two_at HNX6.out) (by simp [Value.oneCell']) (by unfold maxLen;omega) (by omega) ?_
                    intro b7 c7 w7 ho7 hu7 hw7)
       have HI7:=Lib.hid (FrI.app (x:=((kAj l (kCk 7 (kBz l t).2)).1,(kBz l t).1)) HI6.out ho7 hu7 hw7)
       clear ho7 hu7 hw7
       cases hc:isF l [44] (kAj l (kCk 7 (kBz l t).2)).2 with
       | true =>
        have HC:=Lib.hid (kEj w7 p l (kAj l (kCk 7 (kBz l t).2)).2 [44] HI7.out.rd hlen)
        rw [hc] at HC
        have hl:=HL.out
        rw [hc] at hl
        simp only [if_true] at hl
        have HT:Hid ((kDz l [44] (kAj l (kCk 7 (kBz l t).2)).2).2=kBx (kAj l (kCk 7 (kBz l t).2)).2):=Lib.hid (by unfold kDz;rw [if_pos hc])
        have HA:=Lib.hid (Adv.step HF.out HI7.out.rd.inb (kRx hc))
        have HID:=Lib.hid ((kEq HF.out HI4.out.rd.inb).2 (isF_er hc))
        have H7:Hid (out.length≤7):=Lib.hid (by
         have he0:=identR_er (isF_er hc)
         have:=H8.out;omega)
        have HLL:=Lib.hid hl
        clear hc hl
        refine HC.out.mono ?_
        rintro e w8 ⟨rfl,hR8,hu8⟩
        rw [HT.out] at hR8
        have HI8:=Lib.hid (HI7.out.go hu8 hR8 HA.out)
        clear hR8 hu8
        go_wp2_with fail
        refine⟨Lib.hid ⟨k,out++[((kAj l (kCk 7 (kBz l t).2)).1,(kBz l t).1)],kBx (kAj l (kCk 7 (kBz l t).2)).2,_,HLL.out,rfl,HI8.out,by have:=H7.out;simp;omega⟩,?_⟩
        have q1:=HI8.out.rd.nx
        have q2:=HNX.out
        have q3:=HID.out
        have q4:=HI8.out.rd.inb
        have q5:(kBx (kAj l (kCk 7 (kBz l t).2)).2).nx=(kAj l (kCk 7 (kBz l t).2)).2.nx+1:=rfl
        have q6:=HSA.out.le
        have q7:=kPw 7 (kBz l t).2
        rw [q1,q2]
        omega
       | false =>
        have HC:=Lib.hid (kEj w7 p l (kAj l (kCk 7 (kBz l t).2)).2 [44] HI7.out.rd hlen)
        rw [hc] at HC
        have hl:=HL.out
        rw [hc] at hl
        simp only [Bool.false_eq_true,if_false,Option.some.injEq,Prod.mk.injEq] at hl
        have HT:Hid ((kDz l [44] (kAj l (kCk 7 (kBz l t).2)).2).2=(kAj l (kCk 7 (kBz l t).2)).2):=Lib.hid (by unfold kDz;rw [hc];rfl)
        obtain⟨rfl,rfl⟩:=hl
        clear hc
        refine HC.out.mono ?_
        rintro e w8 ⟨rfl,hR8,hu8⟩
        rw [HT.out] at hR8
        have HI8:=Lib.hid (HI7.out.go hu8 hR8 (Adv.refl HI7.out.rd.inb))
        clear hR8 hu8
        go_wp2_with fail
        refine (kSk w8 p l _ [58] HI8.out.rd hlen).mono ?_
        rintro e w9 ⟨rfl,hR9,hu9⟩
        have HP:=Lib.hid (HI8.out.go hu9 hR9 (kNq HF.out HI8.out.rd.inb)).post
        clear hR9 hu9
        go_wp2_with fail
        go_ret
        exact HP.out
      | false =>
       simp only [ha,Bool.false_eq_true,if_false] at hl
       have HL:=Lib.hid hl
       clear hl h0 h1
       go_wp2_with fail
       refine HS.out.mono ?_
       rintro e w2 ⟨rfl,hR2,hu2⟩
       have hI2:=HI.out.go hu2 hR2 (kOz HF.out HI.out.rd.inb)
       have hua:=(Upto.refl [] w2).alloc (.cells #[.string ⟨#[]⟩,.int .i64 (kBz l t).1] 86)
       have HI2:=Lib.hid (hI2.go (hua.mono (by simp)) (hR2.ext hua) (Adv.refl hI2.rd.inb))
       have HV2:Hid ((w2.alloc (.cells #[.string ⟨#[]⟩,.int .i64 (kBz l t).1] 86)).heap[w2.heap.size]?=some (.cells #[.string ⟨#[]⟩,.int .i64 (kBz l t).1] 86 (0,0))):=Lib.hid (kAq _ _)
       have HUW2:Hid (w.heap.size≤w2.heap.size):=Lib.hid hI2.up.size
       have HPV:Hid (p<w2.heap.size):=Lib.hid (by have:=hI2.up.size;have:=hI2.ne;omega)
       have HOWN:Hid (∀g,(Value.slice va out.length vc).ownBlock=some g→g≠w2.heap.size):=Lib.hid (fun g hg=>by
        obtain⟨cur,hh⟩:=kOq hI2.row hg
        have:=kAk hh
        omega)
       have HSA:=Lib.hid (kOz HF.out HI.out.rd.inb)
       have HN:=Lib.hid (kHw (w2.alloc (.cells #[.string ⟨#[]⟩,.int .i64 (kBz l t).1] 86)) p l (kBz l t).2 HI2.out.rd)
       clear hR2 hu2 hI2 hua HS b2
       go_wp2_with fail
       refine HN.out.mono ?_
       rintro e w3 ⟨rfl,hu3⟩
       rw [HTK.out]
       unfold tkA
       have hub:=(Upto.refl [] w3).alloc (.cells #[.int .i64 tk,.string ⟨tx.toArray⟩,.int .i64 tv,.int .i64 tl,.int .i64 tc] 83)
       have HI3:=Lib.hid ((HI2.out.go (hu3.mono (by simp)) (HI2.out.rd.ext hu3) (Adv.refl HI2.out.rd.inb)).go (hub.mono (by simp)) ((HI2.out.rd.ext hu3).ext hub) (Adv.refl HI2.out.rd.inb))
       have HT3:Hid ((w3.alloc (.cells #[.int .i64 tk,.string ⟨tx.toArray⟩,.int .i64 tv,.int .i64 tl,.int .i64 tc] 83)).heap[w3.heap.size]?=some (.cells #[.int .i64 tk,.string ⟨tx.toArray⟩,.int .i64 tv,.int .i64 tl,.int .i64 tc] 83 (0,0))):=Lib.hid (kAq _ _)
       have HV3:=Lib.hid (hub.at (hu3.at HV2.out (by simp)) (by simp))
       clear hu3 hub HN HV2
       have HCT:=Lib.hid (contains_calls out tx tk tv tl tc w3.heap.size _ _ (by have:=H8.out;omega) HI3.out.row HT3.out)
       rw [ha] at HCT
       clear ha
       go_wp2_with fail
       refine HCT.out.mono ?_
       rintro e w4 ⟨rfl,hu4⟩
       have HI4:=Lib.hid (HI3.out.go (hu4.mono (by simp)) (HI3.out.rd.ext hu4) (Adv.refl HI3.out.rd.inb))
       have HV4:=Lib.hid (hu4.at HV3.out (by simp))
       clear hu4
       go_wp2_with fail
       refine (kMx _ p l (kBz l t).2 HI4.out.rd hlen).mono ?_
       rintro e w5 ⟨rfl,hR5,hu5⟩
       have hI5:=HI4.out.go hu5 hR5 (kEq HF.out HI4.out.rd.inb).1
       have hv5:=hu5.at HV4.out (by have:=HPV.out;simp;omega)
       obtain⟨ca0,ca1⟩:=kKx hv5
       obtain⟨fa0,fa1⟩:=kRz hv5
       have hs6:=(Upto.refl [w2.heap.size] w5).setCell (p:=⟨w2.heap.size,0,none⟩) (Or.inl (by simp)) (.string ⟨(kAj l (kBz l t).2).1.toArray⟩)
       have hv6:=kCw hv5 0 (.string ⟨(kAj l (kBz l t).2).1.toArray⟩)
       simp only [List.setIfInBounds_toArray,List.set_cons_zero] at hv6
       obtain⟨cb0,cb1⟩:=kKx hv6
       obtain⟨fb0,fb1⟩:=kRz hv6
       have HI6:=Lib.hid (hI5.set hs6 (by have h1:=HPV.out;have h2:=hI5.ne;have h3:=HUW2.out;omega) HOWN.out)
       have hnx:((w5.setCell ⟨w2.heap.size,0,none⟩ (.string ⟨(kAj l (kBz l t).2).1.toArray⟩)).alloc (.cells #[.string ⟨(kAj l (kBz l t).2).1.toArray⟩,.int .i64 (kBz l t).1] 86)).heap[w5.heap.size]?=some (.cells #[.string ⟨(kAj l (kBz l t).2).1.toArray⟩,.int .i64 (kBz l t).1] 86 (0,0)):=by
        have:=kAq (w5.setCell ⟨w2.heap.size,0,none⟩ (.string ⟨(kAj l (kBz l t).2).1.toArray⟩)) (.cells #[.string ⟨(kAj l (kBz l t).2).1.toArray⟩,.int .i64 (kBz l t).1] 86)
        simpa [World.setCell] using this
       have HNX6:=Lib.hid hnx
       have h8b:=H8.out
       clear hR5 hu5 hI5 hv5 hs6 hv6 hnx
       go_wp2_with (at_builtin
                    refine kHk _ rfl (.tmp 37) (.tmp 39) 46 rfl 86 i0 (.agg #[.string ⟨#[]⟩,.int .i64 0]) 2 24 Tryz.underlying46 hi0 hz0 hz1 hz2 rfl (by decide) (.slice va out.length vc) out.length (out.flatMap varC) rfl (HI6.out.row.alloc _) ⟨w5.heap.size,0,none⟩ 1 1 [.string ⟨(kAj l (kBz l t).2).1.toArray⟩,.int .i64 (kBz l t).1] rfl rfl (two_at HNX6.out) (by simp [Value.oneCell']) (by unfold maxLen;omega) (by omega) ?_
                    intro b7 c7 w7 ho7 hu7 hw7)
       have HI7:=Lib.hid (FrI.app (x:=((kAj l (kBz l t).2).1,(kBz l t).1)) HI6.out ho7 hu7 hw7)
       clear ho7 hu7 hw7
       cases hc:isF l [44] (kAj l (kBz l t).2).2 with
       | true =>
        have HC:=Lib.hid (kEj w7 p l (kAj l (kBz l t).2).2 [44] HI7.out.rd hlen)
        rw [hc] at HC
        have hl:=HL.out
        rw [hc] at hl
        simp only [if_true] at hl
        have HT:Hid ((kDz l [44] (kAj l (kBz l t).2).2).2=kBx (kAj l (kBz l t).2).2):=Lib.hid (by unfold kDz;rw [if_pos hc])
        have HA:=Lib.hid (Adv.step HF.out HI7.out.rd.inb (kRx hc))
        have HID:=Lib.hid ((kEq HF.out HI4.out.rd.inb).2 (isF_er hc))
        have H7:Hid (out.length≤7):=Lib.hid (by
         have he0:=identR_er (isF_er hc)
         have:=H8.out;omega)
        have HLL:=Lib.hid hl
        clear hc hl
        refine HC.out.mono ?_
        rintro e w8 ⟨rfl,hR8,hu8⟩
        rw [HT.out] at hR8
        have HI8:=Lib.hid (HI7.out.go hu8 hR8 HA.out)
        clear hR8 hu8
        go_wp2_with fail
        refine⟨Lib.hid ⟨k,out++[((kAj l (kBz l t).2).1,(kBz l t).1)],kBx (kAj l (kBz l t).2).2,_,HLL.out,rfl,HI8.out,by have:=H7.out;simp;omega⟩,?_⟩
        have q1:=HI8.out.rd.nx
        have q2:=HNX.out
        have q3:=HID.out
        have q4:=HI8.out.rd.inb
        have q5:(kBx (kAj l (kBz l t).2).2).nx=(kAj l (kBz l t).2).2.nx+1:=rfl
        have q6:=HSA.out.le
        have q7:=(rfl:(kBz l t).2.nx=(kBz l t).2.nx)
        rw [q1,q2]
        omega
       | false =>
        have HC:=Lib.hid (kEj w7 p l (kAj l (kBz l t).2).2 [44] HI7.out.rd hlen)
        rw [hc] at HC
        have hl:=HL.out
        rw [hc] at hl
        simp only [Bool.false_eq_true,if_false,Option.some.injEq,Prod.mk.injEq] at hl
        have HT:Hid ((kDz l [44] (kAj l (kBz l t).2).2).2=(kAj l (kBz l t).2).2):=Lib.hid (by unfold kDz;rw [hc];rfl)
        obtain⟨rfl,rfl⟩:=hl
        clear hc
        refine HC.out.mono ?_
        rintro e w8 ⟨rfl,hR8,hu8⟩
        rw [HT.out] at hR8
        have HI8:=Lib.hid (HI7.out.go hu8 hR8 (Adv.refl HI7.out.rd.inb))
        clear hR8 hu8
        go_wp2_with fail
        refine (kSk w8 p l _ [58] HI8.out.rd hlen).mono ?_
        rintro e w9 ⟨rfl,hR9,hu9⟩
        have HP:=Lib.hid (HI8.out.go hu9 hR9 (kNq HF.out HI8.out.rd.inb)).post
        clear hR9 hu9
        go_wp2_with fail
        go_ret
        exact HP.out
    ·have k1:((tk:Int)==1)=false:=by rw [beq_eq_false_iff_ne];omega
     rw [if_neg h1] at hl
     have HL:=Lib.hid hl
     clear hl h0
     go_wp2_with fail
     refine HS.out.mono ?_
     rintro e w2 ⟨rfl,hR2,hu2⟩
     have hI2:=HI.out.go hu2 hR2 (kOz HF.out HI.out.rd.inb)
     have hua:=(Upto.refl [] w2).alloc (.cells #[.string ⟨#[]⟩,.int .i64 (kBz l t).1] 86)
     have HI2:=Lib.hid (hI2.go (hua.mono (by simp)) (hR2.ext hua) (Adv.refl hI2.rd.inb))
     have HV2:Hid ((w2.alloc (.cells #[.string ⟨#[]⟩,.int .i64 (kBz l t).1] 86)).heap[w2.heap.size]?=some (.cells #[.string ⟨#[]⟩,.int .i64 (kBz l t).1] 86 (0,0))):=Lib.hid (kAq _ _)
     have HUW2:Hid (w.heap.size≤w2.heap.size):=Lib.hid hI2.up.size
     have HPV:Hid (p<w2.heap.size):=Lib.hid (by have:=hI2.up.size;have:=hI2.ne;omega)
     have HOWN:Hid (∀g,(Value.slice va out.length vc).ownBlock=some g→g≠w2.heap.size):=Lib.hid (fun g hg=>by
      obtain⟨cur,hh⟩:=kOq hI2.row hg
      have:=kAk hh
      omega)
     have HSA:=Lib.hid (kOz HF.out HI.out.rd.inb)
     have HN:=Lib.hid (kHw (w2.alloc (.cells #[.string ⟨#[]⟩,.int .i64 (kBz l t).1] 86)) p l (kBz l t).2 HI2.out.rd)
     clear hR2 hu2 hI2 hua HS b2
     go_wp2_with fail
     refine HN.out.mono ?_
     rintro e w3 ⟨rfl,hu3⟩
     rw [HTK.out]
     unfold tkA
     have hub:=(Upto.refl [] w3).alloc (.cells #[.int .i64 tk,.string ⟨tx.toArray⟩,.int .i64 tv,.int .i64 tl,.int .i64 tc] 83)
     have HI3:=Lib.hid ((HI2.out.go (hu3.mono (by simp)) (HI2.out.rd.ext hu3) (Adv.refl HI2.out.rd.inb)).go (hub.mono (by simp)) ((HI2.out.rd.ext hu3).ext hub) (Adv.refl HI2.out.rd.inb))
     have HT3:Hid ((w3.alloc (.cells #[.int .i64 tk,.string ⟨tx.toArray⟩,.int .i64 tv,.int .i64 tl,.int .i64 tc] 83)).heap[w3.heap.size]?=some (.cells #[.int .i64 tk,.string ⟨tx.toArray⟩,.int .i64 tv,.int .i64 tl,.int .i64 tc] 83 (0,0))):=Lib.hid (kAq _ _)
     have HV3:=Lib.hid (hub.at (hu3.at HV2.out (by simp)) (by simp))
     clear hu3 hub HN HV2
     obtain⟨w4,hw4⟩:∃w4,w4=w3.alloc (.cells #[.int .i64 tk,.string ⟨tx.toArray⟩,.int .i64 tv,.int .i64 tl,.int .i64 tc] 83):=⟨_,rfl⟩
     have HI4:=HI3
     have HV4:=HV3
     rw [←hw4] at HI4 HV4
     have HW4:=Lib.hid hw4
     clear hw4
     go_wp2_with fail
     rw [←HW4.out]
     refine (kMx _ p l (kBz l t).2 HI4.out.rd hlen).mono ?_
     rintro e w5 ⟨rfl,hR5,hu5⟩
     have hI5:=HI4.out.go hu5 hR5 (kEq HF.out HI4.out.rd.inb).1
     have hv5:=hu5.at HV4.out (by have:=HPV.out;simp;omega)
     obtain⟨ca0,ca1⟩:=kKx hv5
     obtain⟨fa0,fa1⟩:=kRz hv5
     have hs6:=(Upto.refl [w2.heap.size] w5).setCell (p:=⟨w2.heap.size,0,none⟩) (Or.inl (by simp)) (.string ⟨(kAj l (kBz l t).2).1.toArray⟩)
     have hv6:=kCw hv5 0 (.string ⟨(kAj l (kBz l t).2).1.toArray⟩)
     simp only [List.setIfInBounds_toArray,List.set_cons_zero] at hv6
     obtain⟨cb0,cb1⟩:=kKx hv6
     obtain⟨fb0,fb1⟩:=kRz hv6
     have HI6:=Lib.hid (hI5.set hs6 (by have h1:=HPV.out;have h2:=hI5.ne;have h3:=HUW2.out;omega) HOWN.out)
     have hnx:((w5.setCell ⟨w2.heap.size,0,none⟩ (.string ⟨(kAj l (kBz l t).2).1.toArray⟩)).alloc (.cells #[.string ⟨(kAj l (kBz l t).2).1.toArray⟩,.int .i64 (kBz l t).1] 86)).heap[w5.heap.size]?=some (.cells #[.string ⟨(kAj l (kBz l t).2).1.toArray⟩,.int .i64 (kBz l t).1] 86 (0,0)):=by
      have:=kAq (w5.setCell ⟨w2.heap.size,0,none⟩ (.string ⟨(kAj l (kBz l t).2).1.toArray⟩)) (.cells #[.string ⟨(kAj l (kBz l t).2).1.toArray⟩,.int .i64 (kBz l t).1] 86)
      simpa [World.setCell] using this
     have HNX6:=Lib.hid hnx
     have h8b:=H8.out
     clear hR5 hu5 hI5 hv5 hs6 hv6 hnx
     go_wp2_with (at_builtin
                  refine kHk _ rfl (.tmp 37) (.tmp 39) 46 rfl 86 i0 (.agg #[.string ⟨#[]⟩,.int .i64 0]) 2 24 Tryz.underlying46 hi0 hz0 hz1 hz2 rfl (by decide) (.slice va out.length vc) out.length (out.flatMap varC) rfl (HI6.out.row.alloc _) ⟨w5.heap.size,0,none⟩ 1 1 [.string ⟨(kAj l (kBz l t).2).1.toArray⟩,.int .i64 (kBz l t).1] rfl rfl (two_at HNX6.out) (by simp [Value.oneCell']) (by unfold maxLen;omega) (by omega) ?_
                  intro b7 c7 w7 ho7 hu7 hw7)
     have HI7:=Lib.hid (FrI.app (x:=((kAj l (kBz l t).2).1,(kBz l t).1)) HI6.out ho7 hu7 hw7)
     clear ho7 hu7 hw7
     cases hc:isF l [44] (kAj l (kBz l t).2).2 with
     | true =>
      have HC:=Lib.hid (kEj w7 p l (kAj l (kBz l t).2).2 [44] HI7.out.rd hlen)
      rw [hc] at HC
      have hl:=HL.out
      rw [hc] at hl
      simp only [if_true] at hl
      have HT:Hid ((kDz l [44] (kAj l (kBz l t).2).2).2=kBx (kAj l (kBz l t).2).2):=Lib.hid (by unfold kDz;rw [if_pos hc])
      have HA:=Lib.hid (Adv.step HF.out HI7.out.rd.inb (kRx hc))
      have HID:=Lib.hid ((kEq HF.out HI4.out.rd.inb).2 (isF_er hc))
      have H7:Hid (out.length≤7):=Lib.hid (by
       have he0:=identR_er (isF_er hc)
       have:=he0.2;rw [HTK.out] at this;exact absurd this h1)
      have HLL:=Lib.hid hl
      clear hc hl
      refine HC.out.mono ?_
      rintro e w8 ⟨rfl,hR8,hu8⟩
      rw [HT.out] at hR8
      have HI8:=Lib.hid (HI7.out.go hu8 hR8 HA.out)
      clear hR8 hu8
      go_wp2_with fail
      refine⟨Lib.hid ⟨k,out++[((kAj l (kBz l t).2).1,(kBz l t).1)],kBx (kAj l (kBz l t).2).2,_,HLL.out,rfl,HI8.out,by have:=H7.out;simp;omega⟩,?_⟩
      have q1:=HI8.out.rd.nx
      have q2:=HNX.out
      have q3:=HID.out
      have q4:=HI8.out.rd.inb
      have q5:(kBx (kAj l (kBz l t).2).2).nx=(kAj l (kBz l t).2).2.nx+1:=rfl
      have q6:=HSA.out.le
      have q7:=(rfl:(kBz l t).2.nx=(kBz l t).2.nx)
      rw [q1,q2]
      omega
     | false =>
      have HC:=Lib.hid (kEj w7 p l (kAj l (kBz l t).2).2 [44] HI7.out.rd hlen)
      rw [hc] at HC
      have hl:=HL.out
      rw [hc] at hl
      simp only [Bool.false_eq_true,if_false,Option.some.injEq,Prod.mk.injEq] at hl
      have HT:Hid ((kDz l [44] (kAj l (kBz l t).2).2).2=(kAj l (kBz l t).2).2):=Lib.hid (by unfold kDz;rw [hc];rfl)
      obtain⟨rfl,rfl⟩:=hl
      clear hc
      refine HC.out.mono ?_
      rintro e w8 ⟨rfl,hR8,hu8⟩
      rw [HT.out] at hR8
      have HI8:=Lib.hid (HI7.out.go hu8 hR8 (Adv.refl HI7.out.rd.inb))
      clear hR8 hu8
      go_wp2_with fail
      refine (kSk w8 p l _ [58] HI8.out.rd hlen).mono ?_
      rintro e w9 ⟨rfl,hR9,hu9⟩
      have HP:=Lib.hid (HI8.out.go hu9 hR9 (kNq HF.out HI8.out.rd.inb)).post
      clear hR9 hu9
      go_wp2_with fail
      go_ret
      exact HP.out
   ·have k0:((t.er:Int)==0)=false:=by rw [beq_eq_false_iff_ne];omega
    rw [if_neg h0] at hl
    simp only [Option.some.injEq,Prod.mk.injEq] at hl
    obtain⟨rfl,rfl⟩:=hl
    have HP:=Lib.hid hI.post
    clear hI h0
    go_wp2_with fail
    go_ret
    exact HP.out
theorem SlP.get {w:World} {P:Nat→Prop} {v:Value} {n:Nat} {xs:List Value} (h:SlP w P v n xs):∃a c,v=.slice a n c∧∀i u,xs[i]?=some u→∃g o,a=some ⟨g,o,none⟩∧w.cell? ⟨g,o+i,none⟩=some u:=by
 rcases h with⟨rfl,rfl,a,c,rfl⟩ | ⟨g,o,c,rfl,-,hc⟩
 ·exact⟨a,c,rfl,fun i u h=>by simp at h⟩
 ·exact⟨_,c,rfl,fun i u h=>⟨g,o,rfl,hc i u h⟩⟩
def QnV (w:World) (P:Nat→Prop) (q:Qn) (v:Value):Prop:=∃vf a0 a1 a2 a3 a4 a5,v=.agg #[vf,a0,a1,a2,a3,a4,a5]∧VarsV w P vf q.free∧NdV w P q.body (.agg #[a0,a1,a2,a3,a4,a5])
theorem QnV.keep {w w':World} {P Q:Nat→Prop} (hk:Keep w w' P Q) {q:Qn} {v:Value} (h:QnV w P q v):QnV w' Q q v:=by
 obtain⟨vf,a0,a1,a2,a3,a4,a5,e,h1,h2⟩:=h
 exact⟨vf,a0,a1,a2,a3,a4,a5,e,SlP.keep hk h1,NdV.keep hk _ _ h2⟩
theorem QnV.seven {w:World} {P:Nat→Prop} {q:Qn} {v:Value} (h:QnV w P q v):∃(f1:Option Addr) (f2 f3:Nat) (op:Int) (a1:Option Addr) (n1 c1:Nat) (so n m:Int) (a2:Option Addr) (n2 c2:Nat),v=.agg #[.slice f1 f2 f3,.int .i64 op,.slice a1 n1 c1,.int .i64 so,.int .i64 n,.int .i64 m,.slice a2 n2 c2]:=by
 obtain⟨vf,a0,a1,a2,a3,a4,a5,rfl,h1,h2⟩:=h
 obtain⟨fa,fc,rfl⟩:=h1.len
 obtain⟨op,x1,x2,x3,so,n,m,y1,y2,y3,hs⟩:=h2.six
 simp only [Value.agg.injEq,Array.mk.injEq,List.cons.injEq,and_true] at hs
 obtain⟨rfl,rfl,rfl,rfl,rfl,rfl⟩:=hs
 exact⟨fa,_,fc,op,x1,x2,x3,so,n,m,y1,y2,y3,rfl⟩
def zeroQ:Value:=.agg #[.slice none 0 0,.int .i64 0,.slice none 0 0,.int .i64 0,.int .i64 0,.int .i64 0,.slice none 0 0]
theorem QnV.zero (w:World) (P:Nat→Prop):QnV w P .zero zeroQ:=⟨_,_,_,_,_,_,_,rfl,SlP.nil,NdV.zero w P⟩
def QPost (w:World) (p:Nat) (l:List Tok) (s:PS) (q:Qn) (s':PS) (e:Ending) (w':World):Prop :=
 ∃v,e=.returned v∧QnV w' (New w) q v∧RdAt w' p l s'∧Upto [p] w w'∧Adv l s s'
theorem q_store {w:World} {B:Nat} {x0 x1 x2 x3 x4 x5 x6:Value} {T:TypeId} (h:w.heap[B]?=some (.cells #[x0,x1,x2,x3,x4,x5,x6] T (0,0))) (a b c d e f g:Value) :
  (((((((w.setCell ⟨B,0,none⟩ a).setCell ⟨B,1,none⟩ b).setCell ⟨B,2,none⟩ c).setCell ⟨B,3,none⟩ d).setCell ⟨B,4,none⟩ e).setCell ⟨B,5,none⟩ f).setCell ⟨B,6,none⟩ g).heap[B]?=some (.cells #[a,b,c,d,e,f,g] T (0,0)):=by
 have:=kCw (kCw (kCw (kCw (kCw (kCw (kCw h 0 a) 1 b) 2 c) 3 d) 4 e) 5 f) 6 g
 simpa using this
theorem q_up {S:List Nat} {v w:World} {B:Nat} (h:Upto S v w) (hB:B∈S∨v.heap.size≤B) (a b c d e f g:Value):Upto S v (((((((w.setCell ⟨B,0,none⟩ a).setCell ⟨B,1,none⟩ b).setCell ⟨B,2,none⟩ c).setCell ⟨B,3,none⟩ d).setCell ⟨B,4,none⟩ e).setCell ⟨B,5,none⟩ f).setCell ⟨B,6,none⟩ g) :=
 ((((((h.setCell hB _).setCell hB _).setCell hB _).setCell hB _).setCell hB _).setCell hB _).setCell hB _
theorem q_self (w:World) (B:Nat) (a b c d e f g:Value):Upto [B] w (((((((w.setCell ⟨B,0,none⟩ a).setCell ⟨B,1,none⟩ b).setCell ⟨B,2,none⟩ c).setCell ⟨B,3,none⟩ d).setCell ⟨B,4,none⟩ e).setCell ⟨B,5,none⟩ f).setCell ⟨B,6,none⟩ g):=q_up (Upto.refl _ _) (Or.inl (by simp)) ..
theorem qpost_fin {w w2:World} {p B:Nat} {l:List Tok} {s s':PS} {q:Qn} {P:Nat→Prop} (hB:w.heap.size≤B) (hp:p<B) (hu:Upto [p] w w2) (hR:RdAt w2 p l s') (ha:Adv l s s') {a b c d e f g:Value} (hf:VarsV w2 P a q.free) (hn:NdV w2 P q.body (.agg #[b,c,d,e,f,g])) (hP:∀b,P b→IsC w2 b→New w b∧b≠B) :
  QPost w p l s q s' (.returned (.agg #[a,b,c,d,e,f,g])) (((((((w2.setCell ⟨B,0,none⟩ a).setCell ⟨B,1,none⟩ b).setCell ⟨B,2,none⟩ c).setCell ⟨B,3,none⟩ d).setCell ⟨B,4,none⟩ e).setCell ⟨B,5,none⟩ f).setCell ⟨B,6,none⟩ g):=by
 have hst:=q_self w2 B a b c d e f g
 have hk:Keep w2 (((((((w2.setCell ⟨B,0,none⟩ a).setCell ⟨B,1,none⟩ b).setCell ⟨B,2,none⟩ c).setCell ⟨B,3,none⟩ d).setCell ⟨B,4,none⟩ e).setCell ⟨B,5,none⟩ f).setCell ⟨B,6,none⟩ g) P (New w):=⟨hst.size,fun x hx hl=>⟨(hP x hx hl).1,hst.block x hl.lt (by simpa using (hP x hx hl).2)⟩⟩
 exact⟨_,rfl,⟨_,_,_,_,_,_,_,rfl,SlP.keep hk hf,NdV.keep hk _ _ hn⟩,hR.above hst (fun k hk=>by simp at hk;omega),q_up hu (Or.inr hB) ..,ha⟩
theorem query1_calls (w:World) (p:Nat) (l:List Tok) (htx:∀t∈l,t.text.length≤65536) (s s':PS) (q:Qn) (hx:Cx w p l) (h:RdAt w p l s) (hd:s.dp≤256) (he:((freeP l s).bind fun r1=>(wholeP l r1.2).map fun r=>((⟨r1.1,r.1⟩:Qn),r.2))=some (q,s')) :
  Calls Tryz.prog 67 #[.pointer (some ⟨p,0,none⟩)] w (QPost w p l s q s'):=by
 have HF:Hid (Fin l):=Lib.hid h.fin
 have hin:=h.inb
 have HpB:Hid (p<w.heap.size):=Lib.hid h.lt
 have hu0:Upto [] w (w.alloc (.cells #[.slice none 0 0,.int .i64 0,.slice none 0 0,.int .i64 0,.int .i64 0,.int .i64 0,.slice none 0 0] 48)):=(Upto.refl [] w).alloc _
 have HR0:=Lib.hid (h.ext hu0)
 have HX0:=Lib.hid (hx.ext hu0)
 have HU0:Hid (Upto [p] w (w.alloc (.cells #[.slice none 0 0,.int .i64 0,.slice none 0 0,.int .i64 0,.int .i64 0,.int .i64 0,.slice none 0 0] 48))):=Lib.hid (hu0.mono (by simp))
 have HNew:Hid ((w.alloc (.cells #[.slice none 0 0,.int .i64 0,.slice none 0 0,.int .i64 0,.int .i64 0,.int .i64 0,.slice none 0 0] 48)).heap[w.heap.size]?=some (.cells #[.slice none 0 0,.int .i64 0,.slice none 0 0,.int .i64 0,.int .i64 0,.int .i64 0,.slice none 0 0] 48 (0,0))):=Lib.hid (kAq _ _)
 have hlen:=hx.len
 obtain⟨fr,t,m,hv1,hv2,rfl⟩:∃fr t m,freeP l s=some (fr,t)∧wholeP l t=some (m,s')∧q=⟨fr,m⟩:=by
  cases hq:freeP l s with
  | none=>rw [hq] at he;cases he
  | some r =>
   obtain⟨fr,t⟩:=r
   rw [hq] at he
   simp only [Option.bind_some] at he
   cases hq2:wholeP l t with
   | none=>rw [hq2] at he;cases he
   | some r2=>obtain⟨m,t2⟩:=r2;rw [hq2] at he;simp at he;obtain⟨rfl,rfl⟩:=he;exact⟨fr,t,m,rfl,hq2,rfl⟩
 clear hx h hu0 he
 go_enter Tryz.func67,Tryz.ntmps67
 go_wp2_with fail
 refine (free_calls _ p l s t fr HX0.out HR0.out hv1).mono ?_
 rintro e w1 ⟨vf,rfl,hf,hR1,hu1,ha1⟩
 obtain⟨f1,f3,rfl⟩:=hf.len
 have HFV:=Lib.hid hf
 have HR1:=Lib.hid hR1
 have HU1:=Lib.hid hu1
 have HA1:=Lib.hid ha1
 clear hf hR1 hu1 ha1
 go_wp2_with fail
 refine (whole_calls p l htx w1 t m s' (HX0.out.upto HU1.out) HR1.out (by rw [HA1.out.dp];exact hd) hv2).mono ?_
 rintro e w2 ⟨vv,rfl,hn,hR2,hu2,ha⟩
 obtain⟨oa,na1,na2,na3,sa,ma,qa,la1,la2,la3,rfl⟩:=hn.six
 have hz:=hu2.at (HU1.out.at HNew.out (by have:=HpB.out;simp;omega)) (by have:=HpB.out;simp;omega)
 obtain⟨z0,z1,z2,z3,z4,z5,z6⟩:=kBw hz
 obtain⟨y0,y1,y2,y3,y4,y5,y6⟩:=kRk hz
 have HZ:=Lib.hid hz
 have HN:=Lib.hid hn
 have HR2:=Lib.hid hR2
 have HU2:=Lib.hid hu2
 have HA:=Lib.hid ha
 have HS:=Lib.hid (And.intro (kAk HNew.out) (And.intro HU1.out.size HU0.out.size))
 have HF2:Hid (VarsV w2 (New (w.alloc (.cells #[.slice none 0 0,.int .i64 0,.slice none 0 0,.int .i64 0,.int .i64 0,.int .i64 0,.slice none 0 0] 48))) (.slice f1 fr.length f3) fr):=Lib.hid (SlP.upto HFV.out hu2 (fun b hb _=>by have h1:=HS.out;have h2:=HpB.out;unfold New at hb;simp;omega))
 clear hn hR2 hu2 ha hz
 go_wp2_with fail
 have hst:=q_store HZ.out (.slice f1 fr.length f3) (.int .i64 oa) (.slice na1 na2 na3) (.int .i64 sa) (.int .i64 ma) (.int .i64 qa) (.slice la1 la2 la3)
 obtain⟨q0,q1,q2,q3,q4,q5,q6⟩:=kBw hst
 exact bodyPost_ret (v:=.agg #[.slice f1 fr.length f3,.int .i64 oa,.slice na1 na2 na3,.int .i64 sa,.int .i64 ma,.int .i64 qa,.slice la1 la2 la3]) (by simp [results,Tryz.results67,go_sem,q0,q1,q2,q3,q4,q5,q6]) rfl (qpost_fin (q:=⟨fr,m⟩) (P:=New (w.alloc (.cells #[.slice none 0 0,.int .i64 0,.slice none 0 0,.int .i64 0,.int .i64 0,.int .i64 0,.slice none 0 0] 48))) (Nat.le_refl _) HpB.out ((HU0.out.trans_same HU1.out).trans_same HU2.out) HR2.out (HA1.out.trans HA.out) HF2.out (HN.out.mono (fun b hb _=>by have h1:=HS.out;unfold New at hb ⊢;omega)) (fun b hb _=>by have h1:=HS.out;unfold New at hb ⊢;omega))
mutual
def bigN:Nd→Prop
 | .mk _ names _ _ _ l=>names.length≤10000000∧bigsN l
def bigsN:List Nd→Prop
 | []=>True
 | x::xs=>bigN x∧bigsN xs
end
theorem bigs_mem:∀{l:List Nd} {x:Nd},bigsN l→x∈l→bigN x
 | [],_,_,h=>by cases h
 | y::ys,x,h,hx=>by
  unfold bigsN at h
  rcases List.mem_cons.1 hx with rfl | hx
  ·exact h.1
  ·exact bigs_mem h.2 hx
theorem kSx:∀{l:List Nd} {x:Nd},x∈l→kCz x≤kBk l
 | [],_,h=>by cases h
 | y::ys,x,hx=>by
  simp only [kBk]
  rcases List.mem_cons.1 hx with rfl | hx
  ·omega
  ·have:=kSx hx;omega
def LsAt (w:World) (P:Nat→Prop) (a:Option Addr) (l:List Nd):Prop:=∀i x,l[i]?=some x→∃(g o:Nat) (xo:Int) (xn1:Option Addr) (xn2 xn3:Nat) (xs xm xq:Int) (xl1:Option Addr) (xl2 xl3:Nat),a=some ⟨g,o,none⟩∧w.cell? ⟨g,o+i*6,none⟩=some (.int .i64 xo)∧w.cell? ⟨g,o+i*6+1,none⟩=some (.slice xn1 xn2 xn3)∧w.cell? ⟨g,o+i*6+2,none⟩=some (.int .i64 xs)∧w.cell? ⟨g,o+i*6+3,none⟩=some (.int .i64 xm)∧w.cell? ⟨g,o+i*6+4,none⟩=some (.int .i64 xq)∧w.cell? ⟨g,o+i*6+5,none⟩=some (.slice xl1 xl2 xl3)∧NdV w P x (.agg #[.int .i64 xo,.slice xn1 xn2 xn3,.int .i64 xs,.int .i64 xm,.int .i64 xq,.slice xl1 xl2 xl3])
theorem NdV.open {w:World} {P:Nat→Prop} {op so n m:Int} {names:List (List UInt8)} {l:List Nd} {v:Value} (h:NdV w P (.mk op names so n m l) v):∃a1 c1 a2 c2,v=.agg #[.int .i64 op,.slice a1 names.length c1,.int .i64 so,.int .i64 n,.int .i64 m,.slice a2 l.length c2]∧SlP w P (.slice a1 names.length c1) names.length (names.map sV)∧LsAt w P a2 l:=by
 unfold NdV at h
 obtain⟨vn,vl,rfl,h1,h2⟩:=h
 obtain⟨n1,n3,rfl⟩:=h1.len
 rcases h2 with⟨rfl,a,c,rfl⟩ | ⟨g,o,c,rfl,-,h3⟩
 ·exact⟨n1,n3,a,c,rfl,h1,fun i x h=>by simp at h⟩
 ·refine⟨n1,n3,_,c,rfl,h1,fun i x hi=>?_⟩
  obtain⟨v0,v1,v2,v3,v4,v5,c0,c1,c2,c3,c4,c5,hn⟩:=h3.get l o i x hi
  obtain⟨xo,xn1,xn2,xn3,xs,xm,xq,xl1,xl2,xl3,hs⟩:=hn.six
  simp only [Value.agg.injEq,Array.mk.injEq,List.cons.injEq,and_true] at hs
  obtain⟨rfl,rfl,rfl,rfl,rfl,rfl⟩:=hs
  exact⟨g,o,xo,xn1,xn2,xn3,xs,xm,xq,xl1,xl2,xl3,rfl,c0,c1,c2,c3,c4,c5,hn⟩
theorem LsAt.ext {w w':World} {P:Nat→Prop} {a:Option Addr} {l:List Nd} (h:LsAt w P a l) (hu:Upto [] w w'):LsAt w' P a l:=fun i x hi=>by
 obtain⟨g,o,xo,xn1,xn2,xn3,xs,xm,xq,xl1,xl2,xl3,e,c0,c1,c2,c3,c4,c5,hn⟩:=h i x hi
 have up:∀{j:Nat} {u:Value},w.cell? ⟨g,j,none⟩=some u→w'.cell? ⟨g,j,none⟩=some u:=fun hc=>(hu.cell (World.block_lt_of_cell? w _ hc) (by simp)).trans hc
 exact⟨g,o,xo,xn1,xn2,xn3,xs,xm,xq,xl1,xl2,xl3,e,up c0,up c1,up c2,up c3,up c4,up c5,hn.ext hu⟩
def wordsF:List (List UInt8):=[[116,114,117,101],[102,97,108,115,101],[61],[105,110],[115,117,98],[97,100,106],[111,110],[],[],[],[],[110,111,116],[97,110,100],[111,114],[105,109,112,108,105,101,115],[105,102,102],[115,111,109,101],[101,118,101,114,121]]
def kOj (s:Int):List UInt8:=if s=0 then [118,101,114,116,101,120] else if s=1 then [101,100,103,101] else if s=2 then [115,101,116] else if s=3 then [101,100,103,101,115] else []
theorem tok_ok {s:List UInt8} {ts:List Tok} (h:lexT s=.ok ts) (hl:s.length≤281474976710656) (u:World) (he:Env u):Calls Tryz.prog 48 #[.string ⟨s.toArray⟩] u fun e w'=>∃v,e=.returned (.tuple #[v,.agg #[.int .i64 0,.int .i64 0],.int .i64 0])∧Toks w' v ts∧Upto [] u w' :=
 (tokenize_calls s u he hl).mono fun e w' hr=>by
  obtain⟨hr,hu⟩:=hr
  rcases hr with⟨ts',v,hl',rfl,hT⟩ | ⟨l,c,n,hl',_⟩
  ·rw [h] at hl'
   cases hl'
   exact⟨v,rfl,hT,hu⟩
  ·rw [h] at hl'
   cases hl'
theorem tok_err {s:List UInt8} {l c n:Nat} (h:lexT s=.error (l,c,n)) (hl:s.length≤281474976710656) (li ci ni:Int) (h1:li=l) (h2:ci=c) (h3:ni=n) (u:World) (he:Env u):Calls Tryz.prog 48 #[.string ⟨s.toArray⟩] u fun e w'=>e=.returned (.tuple #[.slice none 0 0,.agg #[.int .i64 li,.int .i64 ci],.int .i64 ni])∧Upto [] u w' :=
 (tokenize_calls s u he hl).mono fun e w' hr=>by
  obtain⟨hr,hu⟩:=hr
  subst h1 h2 h3
  rcases hr with⟨ts',v,hl',rfl,hT⟩ | ⟨l,c,n,hl',_,rfl⟩
  ·rw [h] at hl'
   cases hl'
  ·rw [h] at hl'
   cases hl'
   exact⟨rfl,hu⟩
theorem classify_err {r:List UInt8} {n:Nat} (h:kEw r=.error n):n=2∨n=3:=by
 cases r with
 | nil=>cases h;simp
 | cons b t =>
  simp only [kEw] at h
  split at h
  ·split at h
   ·cases h;simp
   ·split at h
    ·cases h;simp
    ·cases h
  ·split at h
   ·cases h;simp
   ·split at h
    ·cases h
    ·split at h
     ·cases h;simp
     ·cases h
theorem lexT_err {s:List UInt8} {l c n:Nat} (h:lexT s=.error (l,c,n)):n=2∨n=3:=by
 unfold lexT at h
 split at h
 ·cases h;simp
 ·refine lex_ind (M:=fun s l c R=>∀l' c' n',R=.error (l',c',n')→n'=2∨n'=3) ?_ ?_ ?_ ?_ ?_ ?_ ?_ s.length s (Nat.le_refl _) 1 1 l c n h
  ·intro l c l' c' n' h;cases h
  ·intro b s l c _ _ ih;exact ih
  ·intro b s l c _ _ ih;exact ih
  ·intro b s l c _ ih l' c' n' h
   cases hR:lexS s l (c+1) with
   | error e =>
    rw [hR] at h ih
    cases h
    exact ih _ _ _ rfl
   | ok ts=>rw [hR] at h;cases h
  ·intro r s l c k v _ _ _ _ ih l' c' n' h
   cases hR:lexS s l (c+r.length) with
   | error e =>
    rw [hR] at h ih
    cases h
    exact ih _ _ _ rfl
   | ok ts=>rw [hR] at h;cases h
  ·intro r s l c e _ _ _ hc l' c' n' h
   cases h
   exact classify_err hc
  ·intro b s l c _ _ _ l' c' n' h
   cases h
   simp
theorem kUx {x:List UInt8} (h:Real 1 x 0):x.length≤16:=by
 rcases h with⟨b,-,-,h4,-⟩ | ⟨h1,h2,h3⟩
 ·cases h4
 ·cases x with
  | nil=>simp
  | cons b t =>
   simp only [kEw] at h3
   split at h3
   ·split at h3
    ·cases h3
    ·split at h3
     ·cases h3
     ·cases h3
   ·split at h3
    ·cases h3
    ·split at h3
     ·cases h3
     ·split at h3
      ·cases h3
      ·omega
theorem dig_len (n:Nat) (h:n≤99):(digF 3 n).length≤2:=by
 have key:∀m:_root_.Fin 100,(digF 3 m.val).length≤2:=by decide
 exact key ⟨n,by omega⟩
theorem rel_word {k:Nat} (h:2≤k∧k<7):(relT ((k:Int)-2).toNat).text=wordsF.getD k []:=by
 have:k=2∨k=3∨k=4∨k=5∨k=6:=by omega
 rcases this with rfl | rfl | rfl | rfl | rfl<;>rfl
theorem sort_word {s:Int} (h0:0≤s) (h4:s<4):kDj.getD s.toNat []=kOj s:=by
 have:s=0∨s=1∨s=2∨s=3:=by omega
 rcases this with rfl | rfl | rfl | rfl<;>rfl
theorem sortW_len:∀k:Nat,(kDj.getD k []).length≤10:=by
 intro k
 by_cases h:k<4
 ·have key:∀m:_root_.Fin 4,(kDj.getD m.val []).length≤10:=by decide
  exact key ⟨k,h⟩
 ·rw [List.getD_eq_getElem?_getD,List.getElem?_eq_none (by show kDj.length≤k;simp [kDj];omega)]
  simp
def strI (c:Int):Int:=if c=15 then 1 else if c=14 then 2 else if c=13 then 3 else if c=12 then 4 else if 11≤c then 5 else 6
def leastI (op:Int) (place:Nat):Int:=if op=11 then 5 else if op=14 then (if place=0 then 3 else 2) else strI op+place
theorem need_str:∀(c:_root_.Fin 18) (o:_root_.Fin 5) (p:_root_.Fin 2),kMz (11+(o.val:Int)) p.val (c.val:Int)=decide (strI (c.val:Int)<leastI (11+(o.val:Int)) p.val):=by decide +kernel
theorem par_str {op c:Int} {place:Nat} (hc0:0≤c) (hc1:c≤17) (h1:11≤op) (h2:op≤15) (hp:place<2) (last:Bool):parB op place c last=(decide (strI c<leastI op place)||(decide (15<c)&&!last)):=by
 obtain⟨k,rfl⟩:=Int.eq_ofNat_of_zero_le hc0
 obtain⟨q,hq⟩:=Int.eq_ofNat_of_zero_le (show 0≤op-11 by omega)
 obtain rfl:op=11+(q:Int):=by omega
 have:=need_str ⟨k,by omega⟩ ⟨q,by omega⟩ ⟨place,hp⟩
 simp only at this
 unfold parB
 rw [this]
def txs (L:List Tok):List (List UInt8):=L.map Tok.text
theorem txs_app (a b:List Tok):txs (a++b)=txs a++txs b:=by simp [txs]
theorem txs_cons (t:Tok) (b:List Tok):txs (t::b)=t.text::txs b:=rfl
theorem txs_len (a:List Tok):(txs a).length=a.length:=by simp [txs]
theorem len_wts:∀(L:List Tok),L.length≤wts L
 | []=>by simp
 | t::r=>by have:=len_wts r;simp only [kDw,wt,List.length_cons];omega
theorem ok_op {op so n m:Int} {names:List (List UInt8)} {l:List Nd} (h:okF (.mk op names so n m l)):0≤op∧op≤17:=by
 unfold okF at h
 rcases h.2.1 with⟨h1 | h1,-⟩ | ⟨h1,h2,-⟩ | ⟨h1,-⟩ | ⟨h1,-⟩ | ⟨h1,-⟩ | ⟨h1,-⟩ | ⟨h1,-⟩ | ⟨h1,h2,-⟩ | ⟨h1,h2,-⟩<;>omega
theorem wt_sort (k:Nat):wt (kyT (kDj.getD k []))≤11:=by
 have:=sortW_len k
 unfold wt kyT
 simp only
 omega
theorem arg_wts:∀(ys:List (List UInt8)),(∀x∈ys,x.length≤16)→wts (argT ys)≤19*ys.length
 | [],_=>by simp [argT,kKz]
 | [x],h=>by have:=h x (by simp);simp only [argT,kDw,kKz,wt,idT,List.length_cons,List.length_nil];omega
 | x::y::r,h=>by
  have h1:=h x (by simp)
  have h2:=arg_wts (y::r) (fun z hz=>h z (List.mem_cons_of_mem _ hz))
  have h3:wt (puT 44)=2:=rfl
  have h4:wt (idT x)=x.length+1:=rfl
  simp only [argT,kDw,List.length_cons] at h2 ⊢
  omega
theorem own_le:∀(k:Nat) (nd:Nd),kCz nd≤k→okF nd→ownW nd≤171*kCz nd+155
 | 0,nd,hn,_=>by have:=kJx nd;omega
 | k+1,.mk op names so n m ls,hn,hok=>by
  unfold okF at hok
  obtain⟨hnm,hc,hs⟩:=hok
  have hx16:∀x∈names,x.length≤16:=fun x hx=>kUx (hnm x hx)
  have hg:∀i,(names.getD i []).length≤16:=fun i=>by
   rw [List.getD_eq_getElem?_getD]
   cases h:names[i]? with
   | none=>simp
   | some x=>exact hx16 x (List.mem_of_getElem? h)
  have hw4:∀i,wt (idT (names.getD i []))≤17:=fun i=>by have:=hg i;show (names.getD i []).length+1≤17;omega
  have hnum:∀q:Int,0≤q→q≤99→wt (nmT q)≤3:=fun q h0 h1=>by
   have:=dig_len q.toNat (by omega)
   show (digF 3 q.toNat).length+1≤3
   omega
  have hrel:wt (relT (op-2).toNat)≤4:=by unfold relT;split<;>decide
  have e1:wt (kyT [116,114,117,101])=5:=rfl
  have e2:wt (kyT [102,97,108,115,101])=6:=rfl
  have e3:wt (kyT [105,115])=3:=rfl
  have e4:wt (kyT [115,105,122,101])=5:=rfl
  have e5:wt (kyT [111,110,101])=4:=rfl
  have e6:wt (puT 40)=2:=rfl
  have e7:wt (puT 41)=2:=rfl
  have e8:wt (kyT [109,111,100])=4:=rfl
  unfold kCz at hn ⊢
  rw [ownW]
  have w0:=hw4 0
  have w1:=hw4 1
  rcases hc with⟨h1,-,h2,-⟩ | ⟨h1,h1',-,h2,-⟩ | ⟨h1,-,h2,-,h3,h4,-⟩ | ⟨h1,-,h2,-,h3,h4,h5⟩ | ⟨h1,-,h2,-⟩ | ⟨h1,h3,h4,h2,-⟩ | ⟨rfl,-,h3,-⟩ | ⟨h1,h2,-,h3,-⟩ | ⟨h1,h2,-,h3,-⟩
  ·rw [if_pos (by omega)]
   unfold kIk
   rcases h1 with h1 | h1
   ·rw [if_pos h1];simp only [kDw,kKz];omega
   ·rw [if_neg (by omega),if_pos h1];simp only [kDw,kKz];omega
  ·rw [if_pos (by omega)]
   unfold kIk
   rw [if_neg (by omega),if_neg (by omega),if_pos h1'];simp only [kDw,kKz];omega
  ·rw [if_pos (by omega)]
   unfold kIk
   have:=hnum n h3 (by omega)
   rw [if_neg (by omega),if_neg (by omega),if_neg (by omega),if_pos h1];simp only [kDw,kKz];omega
  ·rw [if_pos (by omega)]
   unfold kIk
   have:=hnum n h3 (by omega)
   have:=hnum m (by omega) (by omega)
   rw [if_neg (by omega),if_neg (by omega),if_neg (by omega),if_neg (by omega),if_pos h1];simp only [kDw,kKz];omega
  ·rw [if_pos (by omega)]
   unfold kIk
   rw [if_neg (by omega),if_neg (by omega),if_neg (by omega),if_neg (by omega),if_neg (by omega),if_pos h1];simp only [kDw,kKz];omega
  ·rw [if_pos (by omega)]
   unfold kIk
   have ha:=arg_wts names.tail (fun x hx=>hx16 x (List.mem_of_mem_tail hx))
   have hl:names.tail.length≤16:=by simp;omega
   rw [if_neg (by omega),if_neg (by omega),if_neg (by omega),if_neg (by omega),if_neg (by omega),if_neg (by omega)];simp only [kDw,wts_app,kKz];omega
  ·match ls,h3 with
   | [a],_ =>
    unfold oksF at hs
    simp only [kBk] at hn ⊢
    have:=own_le k a (by omega) hs.1
    rw [if_neg (by decide)]
    simp only [if_true,ownsW,List.getD_cons_zero]
    omega
  ·match ls,h3 with
   | [a,b],_ =>
    unfold oksF oksF at hs
    simp only [kBk] at hn ⊢
    have:=own_le k a (by omega) hs.1
    have:=own_le k b (by omega) hs.2.1
    have hw:wt (kyT (conW op))≤10:=by
     unfold conW opWd
     split<;>decide
    rw [if_neg (by omega),if_neg (by omega),if_pos h2]
    simp only [ownsW,List.getD_cons_zero,List.getD_cons_succ]
    omega
  ·match ls,h3 with
   | [a],_ =>
    unfold oksF at hs
    simp only [kBk] at hn ⊢
    have:=own_le k a (by omega) hs.1
    have hq:wt (kyT (quW op))≤7:=by
     unfold quW
     split<;>decide
    have hs4:=wt_sort so.toNat
    rw [if_neg (by omega),if_neg (by omega),if_neg (by omega)]
    simp only [ownsW,List.getD_cons_zero]
    omega
theorem pr_le {nd:Nd} (hok:okF nd) (last:Bool):wts (prT last nd)+4≤175*kCz nd+155:=by
 have h1:=pr_own _ nd (Nat.le_refl _) last
 have h2:=own_le _ nd (Nat.le_refl _) hok
 omega
theorem jn_wts:∀(L:List Tok),L≠[]→(jn L).length+1=wts L
 | [],h=>absurd rfl h
 | t::r,_=>by
  rw [jn_cons,kDw]
  have:∀(r:List Tok),(r.flatMap fun u=>32::u.text).length=wts r:=by
   intro r
   induction r with
   | nil=>rfl
   | cons u r ih=>simp only [List.flatMap_cons,List.length_append,ih,kDw,List.length_cons,wt]
  simp only [List.length_append,this,wt]
  omega
theorem txs_par (b:Bool) (t u:List Tok):txs (parT b t u)=if b then [40]::(txs t++[[41]]) else txs u:=by
 cases b
 ·rfl
 ·simp [parT,txs,puT]
end Go.Proofs.YtkhbpebpljdifaaGreatDoor
namespace Go.Proofs.YtkhbpebpljdifaaGreatDoor
open Go.PL
def hasF (op:Int):Nat×Nat×Nat :=
 if op<2 then (0,0,0) else if op<7 then (2,2,0) else if op<10 then (1,1,0) else if op=10 then (1,17,0) else if op=11 then (0,0,1) else if op<16 then (0,0,2) else (1,1,1)
def kSw (op:Int):Bool:=decide (op<0)||decide (17<op)
def kBq (op:Int) (names len:Nat):Bool:=decide (names<(hasF op).1)||decide ((hasF op).2.1<names)||decide (len≠(hasF op).2.2)
def kGj (op so n m:Int):Bool:=(decide (op≠7)&&decide (op≠8)&&decide (n≠0))||(decide (op≠8)&&decide (m≠0))||(decide (op<16)&&decide (so≠0))
def kGw (op so n m:Int):Bool:=(decide (op=7)&&(decide (n<0)||decide (7<n)))||(decide (op=8)&&(decide (m<1)||decide (64<m)||decide (n<0)||decide (m≤n)))||decide (so<0)||decide (3<so)
mutual
def kKk (nm:List UInt8→Bool):Nd→Nat
 | .mk op names so n m l=>if kSw op then 11 else if kBq op names.length l.length then 3 else if (names.all nm)=false then 3 else if kGj op so n m then 3 else if kGw op so n m then 2 else kHx nm l
def kHx (nm:List UInt8→Bool):List Nd→Nat
 | []=>0
 | x::xs=>if kKk nm x≠0 then kKk nm x else kHx nm xs
end
def kSq (nm:List UInt8→Bool) (n:Nd):Nat:=if kKk nm n≠0 then kKk nm n else kIz n
theorem form_ok {nm:List UInt8→Bool} (hnm:∀x,nm x=true→Real 1 x 0):∀(k:Nat) (nd:Nd),kCz nd≤k→kKk nm nd=0→okF nd
 | 0,nd,hn,_=>by have:=kRw nd;omega
 | k+1,.mk op names so n m ls,hn,h=>by
  unfold kKk at h
  unfold kCz at hn
  unfold okF
  by_cases h1:kSw op=true
  ·rw [if_pos h1] at h;cases h
  rw [if_neg h1] at h
  by_cases h2:kBq op names.length ls.length=true
  ·rw [if_pos h2] at h;cases h
  rw [if_neg h2] at h
  by_cases h3:names.all nm=false
  ·rw [if_pos h3] at h;cases h
  rw [if_neg h3] at h
  by_cases h4:kGj op so n m=true
  ·rw [if_pos h4] at h;cases h
  rw [if_neg h4] at h
  by_cases h5:kGw op so n m=true
  ·rw [if_pos h5] at h;cases h
  rw [if_neg h5] at h
  have hks:∀(l:List Nd),kBk l≤k→kHx nm l=0→oksF l:=by
   intro l
   induction l with
   | nil=>intro _ _;unfold oksF;trivial
   | cons a l ih =>
    intro hl hf
    unfold kHx at hf
    simp only [kBk] at hl
    unfold oksF
    by_cases ha:kKk nm a=0
    ·rw [ha] at hf
     exact⟨form_ok hnm k a (by omega) ha,ih (by omega) (by simpa using hf)⟩
    ·rw [if_pos ha] at hf
     exact absurd hf ha
  refine⟨fun x hx=>hnm x ?_,?_,hks ls (by omega) h⟩
  ·have h3':names.all nm=true:=by simpa using h3
   exact List.all_eq_true.1 h3' x hx
  ·simp only [kSw,kBq,kGj,kGw,Bool.or_eq_true,Bool.and_eq_true,decide_eq_true_eq,not_or,not_and] at h1 h2 h4 h5
   unfold hasF at h2
   have nil_of:∀{α:Type} {l:List α},¬l.length≠0→l=[]:=fun h=>List.length_eq_zero_iff.1 (by omega)
   by_cases g1:op<2
   ·rw [if_pos g1] at h2
    simp only at h2
    exact Or.inl ⟨by omega,nil_of (by omega),nil_of (by omega),by omega,by omega,by omega⟩
   rw [if_neg g1] at h2
   by_cases g2:op<7
   ·rw [if_pos g2] at h2
    simp only at h2
    exact Or.inr (Or.inl ⟨by omega,g2,by omega,nil_of (by omega),by omega,by omega,by omega⟩)
   rw [if_neg g2] at h2
   by_cases g3:op<10
   ·rw [if_pos g3] at h2
    simp only at h2
    have hl:=nil_of (l:=ls) (by omega)
    have hop:op=7∨op=8∨op=9:=by omega
    rcases hop with rfl | rfl | rfl
    ·exact Or.inr (Or.inr (Or.inl ⟨rfl,by omega,hl,by omega,by omega,by omega,by omega⟩))
    ·exact Or.inr (Or.inr (Or.inr (Or.inl ⟨rfl,by omega,hl,by omega,by omega,by omega,by omega⟩)))
    ·exact Or.inr (Or.inr (Or.inr (Or.inr (Or.inl ⟨rfl,by omega,hl,by omega,by omega,by omega⟩))))
   rw [if_neg g3] at h2
   by_cases g4:op=10
   ·rw [if_pos g4] at h2
    simp only at h2
    exact Or.inr (Or.inr (Or.inr (Or.inr (Or.inr (Or.inl ⟨g4,by omega,by omega,nil_of (by omega),by omega,by omega,by omega⟩)))))
   rw [if_neg g4] at h2
   by_cases g5:op=11
   ·rw [if_pos g5] at h2
    simp only at h2
    exact Or.inr (Or.inr (Or.inr (Or.inr (Or.inr (Or.inr (Or.inl ⟨g5,nil_of (by omega),by omega,by omega,by omega,by omega⟩))))))
   rw [if_neg g5] at h2
   by_cases g6:op<16
   ·rw [if_pos g6] at h2
    simp only at h2
    exact Or.inr (Or.inr (Or.inr (Or.inr (Or.inr (Or.inr (Or.inr (Or.inl ⟨by omega,g6,nil_of (by omega),by omega,by omega,by omega,by omega⟩)))))))
   rw [if_neg g6] at h2
   simp only at h2
   exact Or.inr (Or.inr (Or.inr (Or.inr (Or.inr (Or.inr (Or.inr (Or.inr ⟨by omega,by omega,by omega,by omega,by omega,by omega,by omega,by omega⟩)))))))
def kYk (nm:List UInt8→Bool):List (List UInt8×Int)→List (List UInt8)→Nat
 | [],_=>0
 | v::r,seen=>if nm v.1=false then 3 else if (decide (v.2<0)||decide (3<v.2))=true then 2 else if seen.contains v.1=true then 7 else kYk nm r (seen++[v.1])
def kIj (nm:List UInt8→Bool) (q:Qn):Nat :=
 if 8<q.free.length then 8 else if kYk nm q.free []≠0 then kYk nm q.free [] else kSq nm q.body
theorem varsE_ok {nm:List UInt8→Bool} (hnm:∀x,nm x=true→Real 1 x 0):∀(f:List (List UInt8×Int)) (seen:List (List UInt8)),kYk nm f seen=0→(∀v∈f,Real 1 v.1 0∧0≤v.2∧v.2<4)∧(∀v∈f,v.1∉seen)∧f.Pairwise fun a b=>a.1≠b.1
 | [],seen,_=>⟨by simp,by simp,List.Pairwise.nil⟩
 | v::r,seen,h=>by
  unfold kYk at h
  by_cases h1:nm v.1=false
  ·rw [if_pos h1] at h;cases h
  rw [if_neg h1] at h
  by_cases h2:(decide (v.2<0)||decide (3<v.2))=true
  ·rw [if_pos h2] at h;cases h
  rw [if_neg h2] at h
  by_cases h3:seen.contains v.1=true
  ·rw [if_pos h3] at h;cases h
  rw [if_neg h3] at h
  obtain⟨k1,k2,k3⟩:=varsE_ok hnm r _ h
  simp only [Bool.or_eq_true,decide_eq_true_eq,not_or] at h2
  have hs:v.1∉seen:=by simpa using h3
  refine⟨?_,?_,List.Pairwise.cons (fun b hb he=>?_) k3⟩
  ·intro u hu
   rcases List.mem_cons.1 hu with rfl | hu
   ·exact⟨hnm _ (by simpa using h1),by omega,by omega⟩
   ·exact k1 u hu
  ·intro u hu
   rcases List.mem_cons.1 hu with rfl | hu
   ·exact hs
   ·exact fun hm=>k2 u hu (by simp [hm])
  ·exact k2 b hb (by simp [he])
theorem right_ok {nm:List UInt8→Bool} (hnm:∀x,nm x=true→Real 1 x 0) {q:Qn} (h:kIj nm q=0):okV q.free∧okF q.body∧kIz q.body=0:=by
 unfold kIj at h
 by_cases h1:8<q.free.length
 ·rw [if_pos h1] at h;cases h
 rw [if_neg h1] at h
 by_cases h2:kYk nm q.free []≠0
 ·rw [if_pos h2] at h;exact absurd h h2
 rw [if_neg h2] at h
 unfold kSq at h
 by_cases h3:kKk nm q.body≠0
 ·rw [if_pos h3] at h;exact absurd h h3
 rw [if_neg h3] at h
 obtain⟨k1,-,k3⟩:=varsE_ok hnm _ _ (Decidable.not_not.1 h2)
 exact⟨⟨by omega,k1,k3⟩,form_ok hnm _ _ (Nat.le_refl _) (Decidable.not_not.1 h3),h⟩
theorem great_lim {n:Nd} (h:kIz n=0):kCz n≤4096∧kNw n≤256:=by
 unfold kIz at h
 by_cases h1:4096<kCz n
 ·rw [if_pos h1] at h;cases h
 rw [if_neg h1] at h
 by_cases h2:256<kNw n
 ·rw [if_pos h2] at h;cases h
 ·exact⟨by omega,by omega⟩
end Go.Proofs.YtkhbpebpljdifaaGreatDoor
namespace Go.Proofs.YtkhbpebpljdifaaGreatDoor
open Go.RowKit Go.PL Go.Maps
theorem sname_calls (s:Int) (w:World) (hs:SEnv w):Calls Tryz.prog 37 #[.int .i64 s] w fun e w'=>e=.returned (.string ⟨(kOj s).toArray⟩)∧Upto [] w w':=by
 have HU:=Lib.hid (Upto.refl [] w)
 by_cases h0:s<0
 ·have e:kOj s=[]:=by unfold kOj;rw [if_neg (by omega),if_neg (by omega),if_neg (by omega),if_neg (by omega)]
  rw [e]
  clear e hs
  go_enter Tryz.func37,Tryz.ntmps37
  go_wp2_with fail
  go_ret
  exact⟨rfl,HU.out⟩
 by_cases h1:(4:Int)≤s
 ·have e:kOj s=[]:=by unfold kOj;rw [if_neg (by omega),if_neg (by omega),if_neg (by omega),if_neg (by omega)]
  rw [e]
  clear e hs
  go_enter Tryz.func37,Tryz.ntmps37
  go_wp2_with fail
  go_ret
  exact⟨rfl,HU.out⟩
 have hc:s=0∨s=1∨s=2∨s=3:=by omega
 have c0:=hs.c0
 have c1:=hs.c1
 have c2:=hs.c2
 have c3:=hs.c3
 clear hs h0 h1
 rcases hc with rfl | rfl | rfl | rfl
 ·go_enter Tryz.func37,Tryz.ntmps37
  go_wp2_with fail
  go_ret
  exact⟨rfl,HU.out⟩
 ·go_enter Tryz.func37,Tryz.ntmps37
  go_wp2_with fail
  go_ret
  exact⟨rfl,HU.out⟩
 ·go_enter Tryz.func37,Tryz.ntmps37
  go_wp2_with fail
  go_ret
  exact⟨rfl,HU.out⟩
 ·go_enter Tryz.func37,Tryz.ntmps37
  go_wp2_with fail
  go_ret
  exact⟨rfl,HU.out⟩
theorem vars_get {w:World} {P:Nat→Prop} {v:Value} {f:List (List UInt8×Int)} (h:VarsV w P v f):∃a c,v=.slice a f.length c∧∀i x,f[i]?=some x→∃g o,a=some ⟨g,o,none⟩∧w.cell? ⟨g,o+i*2,none⟩=some (.string ⟨x.1.toArray⟩)∧w.cell? ⟨g,o+i*2+1,none⟩=some (.int .i64 x.2):=by
 obtain⟨a,c,rfl,hg⟩:=SlP.get h
 refine⟨a,c,rfl,fun i x hi=>?_⟩
 obtain⟨g,o,rfl,h1⟩:=hg _ _ (vars_at hi).1
 obtain⟨g2,o2,e,h2⟩:=hg _ _ (vars_at hi).2
 simp at e
 obtain⟨rfl,rfl⟩:=e
 exact⟨g,o,rfl,h1,h2⟩
theorem kWj {w:World} {P:Nat→Prop} {a:Option Addr} {n c:Nat} {f:List (List UInt8×Int)} (h:VarsV w P (.slice a n c) f):∀i x,f[i]?=some x→∃g o,a=some ⟨g,o,none⟩∧w.cell? ⟨g,o+i*2,none⟩=some (.string ⟨x.1.toArray⟩)∧w.cell? ⟨g,o+i*2+1,none⟩=some (.int .i64 x.2):=by
 obtain⟨a',c',e,hg⟩:=vars_get h
 cases e
 exact hg
theorem right_vars {nm:List UInt8→Bool} {q:Qn} {k:Nat} (h8:¬8<q.free.length) (h0:k≠0) (h:kYk nm q.free []=k):kIj nm q=k:=by
 unfold kIj
 rw [if_neg h8,h,if_pos h0]
theorem right_body {nm:List UInt8→Bool} {q:Qn} (h8:¬8<q.free.length) (h:kYk nm q.free []=0):kIj nm q=kSq nm q.body:=by
 unfold kIj
 rw [if_neg h8,h]
 rfl
theorem opq_apps {P:Program} (w:World) {o:Oper} {ac:Act} {post:Value→World→Prop} (s x:Operand) (t:TypeId) (ho:o.op=.call { callee:=.builtin .append,args:=#[s,x],argTypes:=#[t,t] })
  (e:TypeId) (i:TypeInfo) (z:Value) (bytes:Nat) (ht:P.underlying t=some (.slice e)) (hi:P.info? e=some i) (hz:i.zero=some z)
  (hsize:i.size=1) (hby:i.bytes=bytes) (hzs:z.cells.size=1)
  (b:Nat) (hs:ac.eval s=.slice (some ⟨b,0,none⟩) 0 0)
  (y:Value) (news:List Value) (n:Nat) (hn:news.length=n) (hx:ac.eval x=y) (hnews:SlC w y news)
  (h63:n≤maxLen) (hbytes:n*bytes≤140737488355328)
  (h:∀b' c' w',Upto [] w w'→SlP w' (New w) (.slice b' n c') n news→post (.slice b' n c') w') :
  kNj P post ((execOp ac.eval o).run P w):=by
 subst hn
 have hzero:news=[]→(∃a c,y=.slice a 0 c)→kNj P post ((execOp ac.eval o).run P w):=by
  rintro rfl ⟨a,c,rfl⟩
  have hr:(Builtin.append_ #[t,t] o.type #[.slice (some ⟨b,0,none⟩) 0 0,.slice a 0 c]).run P w=.ok (.slice (some ⟨b,0,none⟩) 0 0) w:=by
   cases a<;>simp [Builtin.append_,run_underlying ht,sizeOf,typeInfo,hi,Builtin.lenOf,Builtin.firstCells,loadCells,loadCellsFrom,storeCells]
  simp only [execOp,ho,resolve,invoke,builtin,Sem.run_bind,Sem.run_pure,Result.andThen_ok,List.map_toArray,List.map_cons,List.map_nil,hs,hx,hr]
  exact h _ _ w (Upto.refl _ _) (Or.inl ⟨rfl,rfl,_,_,rfl⟩)
 rcases hnews with⟨h0,a,c,h2⟩ | ⟨g,off,c,h2,hc⟩
 ·exact hzero h0 ⟨a,c,h2⟩
 ·cases news with
  | nil=>exact hzero rfl ⟨_,_,h2⟩
  | cons u us =>
   obtain⟨v',w',hr,hrow,hgr⟩:=run_append_arg_grows (P:=P) w t o.type e i z 1 bytes ht hi hz hsize hby hzs (by decide) ⟨b,0,none⟩ 0 0 [] rfl (by simp) ⟨g,off,none⟩ (u::us).length c (u::us) (by simp) (fun j u hj=>by simpa [Addr.add_lit] using hc j u hj) (by simp) (by simpa using h63) (by simpa using hbytes)
   simp only [execOp,ho,resolve,invoke,builtin,Sem.run_bind,Sem.run_pure,Result.andThen_ok,List.map_toArray,List.map_cons,List.map_nil,hs,hx,h2,hr]
   rcases hrow.2 with⟨-,h0⟩ | ⟨g',cap,cur,rfl,hge,hh,hnc,_,_,htk⟩
   ·simp at h0
   ·rw [Nat.zero_add] at htk ⊢
    refine h _ _ w' ((Upto.refl [] w).grown hgr (fun k e=>by cases e)) (Or.inr ⟨g',0,cap,rfl,⟨hge,⟨_,_,_,hh⟩,by simpa using hnc⟩,?_⟩)
    intro j u' hj
    rw [kAz hh,Nat.zero_add]
    rw [←List.nil_append (u::us),←htk,List.getElem?_take] at hj
    split at hj
    ·simpa using hj
    ·cases hj
theorem SlP.slc {w:World} {P:Nat→Prop} {v:Value} {xs:List Value} (h:SlP w P v xs.length xs):SlC w v xs:=by
 rcases h with⟨h0,rfl,a,c,rfl⟩ | ⟨g,o,c,rfl,-,hc⟩
 ·exact Or.inl ⟨rfl,a,c,by rfl⟩
 ·exact Or.inr ⟨g,o,c,rfl,hc⟩
def BkPost (w:World) (nd:Nd) (e:Ending) (w':World):Prop:=∃v,e=.returned v∧NdV w' (New w) nd v∧Upto [] w w'
structure BkRow (w0 w:World) (B:Nat) (c:Nat→Nat→Value) (v:Value) (ms:List Nd):Prop where
 row:w.ownsRow 0 25 6 v ms.length (cellsN c ms.length)
 nd:∀i m,ms[i]?=some m→NdV w (Lr w0 B v) m (.agg #[c i 0,c i 1,c i 2,c i 3,c i 4,c i 5])
 own:∀g,v.ownBlock=some g→w0.heap.size≤g∧g≠B
theorem BkRow.upto {w0 w w':World} {S:List Nat} {B:Nat} {c:Nat→Nat→Value} {v:Value} {ms:List Nd} (h:BkRow w0 w B c v ms) (hu:Upto S w w') (hS:∀k∈S,k<w0.heap.size∨k=B):BkRow w0 w' B c v ms :=
 ⟨kIx h.row hu (fun g hg hm=>by have h1:=h.own g hg;rcases hS g hm with h2 | h2<;>omega),
  fun i m hi=>(h.nd i m hi).upto hu (fun b hb _ hm=>by have h1:=hb.1;unfold New at h1;rcases hS b hm with h2 | h2;omega;exact hb.2.1 h2),h.own⟩
theorem BkRow.app {w0 w w5:World} {B:Nat} {c:Nat→Nat→Value} {v:Value} {ms:List Nd} {m:Nd} {v0 v1 v2 v3 v4 v5:Value} {b':Option Addr} {c':Nat} (h:BkRow w0 w B c v ms) (hsz:w0.heap.size≤w.heap.size) (hBw:B<w.heap.size)
  (hm:NdV w (Lr w0 B v) m (.agg #[v0,v1,v2,v3,v4,v5])) (ho:w5.ownsRow 0 25 6 (.slice b' (ms.length+1) c') (ms.length+1) (cellsN c ms.length++[v0,v1,v2,v3,v4,v5])) (hu:Upto v.ownBlock.toList w w5)
  (hw:∀g,(Value.slice b' (ms.length+1) c').ownBlock=some g→v.ownBlock=some g∨w.heap.size≤g):BkRow w0 w5 B (addC c ms.length v0 v1 v2 v3 v4 v5) (.slice b' (ms.length+1) c') (ms++[m]):=by
 have key:∀x u,NdV w (Lr w0 B v) x u→NdV w5 (Lr w0 B (.slice b' (ms.length+1) c')) x u:=fun x u hx =>
  NdV.keep ⟨hu.size,fun b hb hl=>⟨⟨hb.1,hb.2.1,fun e=>by
   rcases hw b e with h1 | h1
   ·exact hb.2.2 h1
   ·have:=hl.lt;omega⟩,hu.block b hl.lt (fun hmm=>hb.2.2 (Option.mem_toList.1 hmm))⟩⟩ x u hx
 refine⟨?_,?_,?_⟩
 ·rw [List.length_append,List.length_singleton,cellsN_add]
  exact ho
 ·intro i x hi
  by_cases hlt:i<ms.length
  ·rw [List.getElem?_append_left hlt] at hi
   have:=key _ _ (h.nd i x hi)
   simpa [addC,Nat.ne_of_lt hlt] using this
  ·rw [List.getElem?_append_right (by omega)] at hi
   cases hd:i-ms.length with
   | zero =>
    rw [hd] at hi
    simp at hi
    subst hi
    have:i=ms.length:=by omega
    subst this
    simpa [addC] using key _ _ hm
   | succ z=>rw [hd] at hi;simp at hi
 ·intro g hg
  rcases hw g hg with h1 | h1
  ·exact h.own g h1
  ·exact⟨by omega,by omega⟩
theorem nds_of {w:World} {P:Nat→Prop} {g:Nat}:∀(l:List Nd) (o:Nat),(∀i x,l[i]?=some x→∃v0 v1 v2 v3 v4 v5,w.cell? ⟨g,o+i*6,none⟩=some v0∧w.cell? ⟨g,o+i*6+1,none⟩=some v1∧w.cell? ⟨g,o+i*6+2,none⟩=some v2∧w.cell? ⟨g,o+i*6+3,none⟩=some v3∧w.cell? ⟨g,o+i*6+4,none⟩=some v4∧w.cell? ⟨g,o+i*6+5,none⟩=some v5∧NdV w P x (.agg #[v0,v1,v2,v3,v4,v5]))→NdsV w P g o l
 | [],_,_=>by unfold NdsV;trivial
 | y::ys,o,h=>by
  unfold NdsV
  refine⟨by simpa using h 0 y rfl,nds_of ys (o+6) fun i x hi=>?_⟩
  have:=h (i+1) x (by simpa using hi)
  rwa [show o+(i+1)*6=o+6+i*6 by omega] at this
theorem BkRow.list {w0 w:World} {B:Nat} {c:Nat→Nat→Value} {v:Value} {ms:List Nd} {Q:Nat→Prop} (h:BkRow w0 w B c v ms) (h1:∀b,Lr w0 B v b→Q b) (h2:∀g,v.ownBlock=some g→Q g):(ms=[]∧∃a c,v=.slice a 0 c)∨∃g o c,v=.slice (some ⟨g,o,none⟩) ms.length c∧(Q g∧IsC w g)∧NdsV w Q g o ms:=by
 rcases h.row.2 with⟨e,h0⟩ | ⟨g,cap,cur,e,_,hh,_,_,_,ht⟩
 ·exact Or.inl ⟨List.eq_nil_of_length_eq_zero h0,none,0,e⟩
 ·refine Or.inr ⟨g,0,cap,e,⟨h2 g (by rw [e];rfl),_,_,_,hh⟩,nds_of ms 0 fun i x hi=>?_⟩
  have hil:i<ms.length:=(List.getElem?_eq_some_iff.1 hi).1
  have cl:∀j,j<6→w.cell? ⟨g,0+i*6+j,none⟩=some (c i j):=fun j hj=>by
   rw [kAz hh]
   have:=cellsN_at c hil hj
   rw [←ht,List.getElem?_take] at this
   split at this
   ·simpa using this
   ·cases this
  exact⟨_,_,_,_,_,_,cl 0 (by omega),cl 1 (by omega),cl 2 (by omega),cl 3 (by omega),cl 4 (by omega),cl 5 (by omega),(h.nd i x hi).mono fun b hb _=>h1 b hb⟩
theorem names_ne {w:World} {P:Nat→Prop} {v:Value} {n:Nat} {names:List (List UInt8)} (h:SlP w P v n (names.map sV)) (hn:n=names.length) {bn:Nat} {T:TypeId} {z:Nat×Nat} (hb:w.heap[bn]?=some (.cells #[.int .i64 0,.slice none 0 0,.int .i64 0,.int .i64 0,.int .i64 0,.slice none 0 0] T z)):SlP w (fun b=>P b∧b≠bn) v n (names.map sV):=by
 rcases h with h | ⟨g,o,c,rfl,⟨hg,hi,hnc⟩,hc⟩
 ·exact Or.inl h
 ·cases names with
  | nil=>subst hn;exact Or.inl ⟨rfl,rfl,_,c,rfl⟩
  | cons x r =>
   refine Or.inr ⟨g,o,c,rfl,⟨⟨hg,fun e=>?_⟩,hi,hnc⟩,hc⟩
   subst e
   have h0:=hc 0 (sV x) rfl
   rw [kAz hb] at h0
   have:o+0=0∨o+0=1∨o+0=2∨o+0=3∨o+0=4∨o+0=5∨6≤o+0:=by omega
   rcases this with e | e | e | e | e | e | e
   ·rw [e] at h0;simp [sV] at h0
   ·rw [e] at h0;simp [sV] at h0
   ·rw [e] at h0;simp [sV] at h0
   ·rw [e] at h0;simp [sV] at h0
   ·rw [e] at h0;simp [sV] at h0
   ·rw [e] at h0;simp [sV] at h0
   ·rw [Array.getElem?_eq_none (by simpa using e)] at h0;cases h0
end Go.Proofs.YtkhbpebpljdifaaGreatDoor
namespace Go.Proofs
open Go.Shelf
def Tryz.lays156_ren:Go.Shelf.Ren:=⟨fun | 156=>82 | 165=>120 | 166=>83 | 169=>86 | 240=>121 | 241=>141 | 276=>142 | 277=>156 | n=>n,fun | 31=>22 | 9=>9 | 3=>3 | 4=>4 | 0=>0 | 20=>20 | 72=>117 | 76=>120 | 70=>114 | 37=>115 | 75=>119 | 127=>154 | 164=>171 | 5=>5 | 80=>124 | n=>n,fun | n=>n⟩
theorem Tryz.lays156:Go.Proofs.Lays.n156 Tryz.prog Tryz.lays156_ren:={
 mixed:=by kernel_rfl
 f156:=Tryz.func82.trans (congrArg some (by kernel_rfl))
 f165:=Tryz.func120.trans (congrArg some (by kernel_rfl))
 f166:=Tryz.func83.trans (congrArg some (by kernel_rfl))
 f169:=Tryz.func86.trans (congrArg some (by kernel_rfl))
 f240:=Tryz.func121.trans (congrArg some (by kernel_rfl))
 f241:=Tryz.func141.trans (congrArg some (by kernel_rfl))
 f276:=Tryz.func142.trans (congrArg some (by kernel_rfl))
 f277:=Tryz.func156.trans (congrArg some (by kernel_rfl))
 t0:=Tryz.underlying0
 a0:=Tryz.isAgg0
 z0:=Tryz.sizeOf0
 v0:=Tryz.zeroValue0
 t3:=Tryz.underlying3
 a3:=Tryz.isAgg3
 z3:=Tryz.sizeOf3
 v3:=Tryz.zeroValue3
 t4:=Tryz.underlying4
 a4:=Tryz.isAgg4
 z4:=Tryz.sizeOf4
 v4:=Tryz.zeroValue4
 t9:=Tryz.underlying9
 a9:=Tryz.isAgg9
 z9:=Tryz.sizeOf9
 v9:=Tryz.zeroValue9
 t20:=Tryz.underlying20
 a20:=Tryz.isAgg20
 z20:=Tryz.sizeOf20
 v20:=Tryz.zeroValue20
 t31:=Tryz.underlying22
 a31:=Tryz.isAgg22
 z31:=Tryz.sizeOf22
 v31:=Tryz.zeroValue22
 t37:=Tryz.underlying115
 a37:=Tryz.isAgg115
 z37:=Tryz.sizeOf115
 v37:=Tryz.zeroValue115
 t70:=Tryz.underlying114
 a70:=Tryz.isAgg114
 z70:=Tryz.sizeOf114
 v70:=Tryz.zeroValue114
 t72:=Tryz.underlying117
 a72:=Tryz.isAgg117
 z72:=Tryz.sizeOf117
 v72:=Tryz.zeroValue117
 t75:=Tryz.underlying119
 a75:=Tryz.isAgg119
 z75:=Tryz.sizeOf119
 v75:=Tryz.zeroValue119
 t76:=Tryz.underlying120
 a76:=Tryz.isAgg120
 z76:=Tryz.sizeOf120
 v76:=Tryz.zeroValue120
 t127:=Tryz.underlying154
 a127:=Tryz.isAgg154
 z127:=Tryz.sizeOf154
 v127:=Tryz.zeroValue154
 t164:=Tryz.underlying171
 a164:=Tryz.isAgg171
 z164:=Tryz.sizeOf171
 v164:=Tryz.zeroValue171 }
theorem Tryz.Builder_Extra_156:Builder.Extra Tryz.prog Tryz.lays156_ren:={
 sizeBuilder:=by kernel_rfl
 liesBuilder:=by kernel_rfl
 t5:=Tryz.underlying5
 a5:=Tryz.isAgg5
 z5:=Tryz.sizeOf5
 v5:=Tryz.zeroValue5
 infoByte:=by kernel_rfl
 cellsByte:=by kernel_rfl
 sizeByte:=by kernel_rfl
 neB5:=by decide }
open Go.RowKit in
theorem Tryz.strings_Join_none (a:Option Addr) (c:Nat) (sep:ByteArray) (w:World) :
  Calls Tryz.prog 82 #[.slice a 0 c,.string sep] w fun e w'=>e=.returned (.string ⟨#[]⟩)∧w'=w:=Any.strings_Join_none Tryz.lays156 Tryz.Builder_Extra_156 a c sep w
open Go.RowKit in
theorem Tryz.strings_Join (bk o c:Nat) (xs:List ByteArray) (sep:ByteArray) (w:World) (hcells:∀(j:Nat) x,xs[j]?=some x→w.cell? ⟨bk,o+j,none⟩=some (.string x)) (hbk:bk<w.heap.size) (hN:xs.length≤140737488355328) (hcap:xs.length≤c) (hlen:(Lib.join (xs.map (·.data.toList)) sep.data.toList).length≤140737488355328) :
  Calls Tryz.prog 82 #[.slice (some ⟨bk,o,none⟩) xs.length c,.string sep] w fun e w'=>e=.returned (.string ⟨(Lib.join (xs.map (·.data.toList)) sep.data.toList).toArray⟩)∧Below w.heap.size w w':=Any.strings_Join Tryz.lays156 Tryz.Builder_Extra_156 bk o c xs sep w hcells hbk hN hcap hlen
end Go.Proofs
namespace Go.Proofs.YtkhbpebpljdifaaGreatDoor
open Go.RowKit Go.PL Go.Maps
theorem one_of {α:Type} {l:List α} (h:l.length=1):∃x,l=[x]:=by
 match l,h with
 | [x],_=>exact⟨x,rfl⟩
theorem two_of {α:Type} {l:List α} (h:l.length=2):∃x y,l=[x,y]:=by
 match l,h with
 | [x,y],_=>exact⟨x,y,rfl⟩
theorem cons_of {α:Type} {l:List α} (h:1≤l.length):∃x r,l=x::r:=by
 match l,h with
 | x::r,_=>exact⟨x,r,rfl⟩
theorem argT_snoc:∀(xs:List (List UInt8)) (y:List UInt8),txs (argT (xs++[y]))=txs (argT xs)++(if xs=[] then [] else [[44]])++[y]
 | [],y=>by simp [txs,argT,idT]
 | [x],y=>by simp [txs,argT,idT,puT]
 | x::z::r,y=>by
  have h:=argT_snoc (z::r) y
  rw [if_neg (by simp)] at h ⊢
  simp only [txs,List.cons_append,argT,List.map_cons] at h ⊢
  rw [h]
theorem argT_len:∀(ys:List (List UInt8)),(argT ys).length≤2*ys.length
 | []=>by simp [argT]
 | [x]=>by simp [argT]
 | x::y::r=>by have:=argT_len (y::r);simp only [argT,List.length_cons] at this ⊢;omega
def frS (f:List (List UInt8×Int)):List UInt8:=(varB f).flatMap (fun u=>32::u.2.text)
def frT (f:List (List UInt8×Int)):List (List UInt8):=(varB f).map (fun u=>u.2.text)
theorem frT_nil:frT []=[]:=rfl
theorem frT_snoc:∀(f:List (List UInt8×Int)) (v:List UInt8×Int),frT (f++[v])=frT f++(if f=[] then [] else [[44]])++[kDj.getD v.2.toNat [],v.1]
 | [],v=>by simp [frT,varB,idT,kyT]
 | [x],v=>by simp [frT,varB,idT,kyT,puT]
 | x::z::r,v=>by
  have h:=frT_snoc (z::r) v
  rw [if_neg (by simp)] at h ⊢
  simp only [frT,List.cons_append,varB,List.map_cons] at h ⊢
  rw [h]
theorem frT_len:∀(f:List (List UInt8×Int)),(frT f).length≤3*f.length
 | []=>by simp [frT,varB]
 | [x]=>by simp [frT,varB]
 | x::y::r=>by have:=frT_len (y::r);simp only [frT,varB,List.map_cons,List.length_cons] at this ⊢;omega
theorem frS_len:∀(f:List (List UInt8×Int)),(∀v∈f,v.1.length≤16)→(frS f).length≤31*f.length
 | [],_=>by simp [frS,varB]
 | [x],h=>by
  have h1:=h x (by simp)
  have h2:=sortW_len x.2.toNat
  simp only [frS,varB,List.flatMap_cons,List.flatMap_nil,List.length_append,List.length_cons,List.length_nil,kyT,idT]
  omega
 | x::y::r,h=>by
  have h1:=h x (by simp)
  have h2:=sortW_len x.2.toNat
  have h3:=frS_len (y::r) (fun v hv=>h v (List.mem_cons_of_mem _ hv))
  simp only [frS,varB,List.flatMap_cons,List.length_append,List.length_cons,List.length_nil,kyT,idT,puT] at h3 ⊢
  omega
theorem txs_free {f:List (List UInt8×Int)} (hf:f≠[]):txs ((freeB f).map Prod.snd)=[102,105,110,100]::(frT f++[[58]]):=by
 cases f with
 | nil=>exact absurd rfl hf
 | cons v r=>simp [txs,freeB,frT,kyT,puT,Function.comp_def]
theorem jn_quest {q:Qn} (hf:q.free≠[]):jn (prQ q)=[102,105,110,100]++frS q.free++[32,58]++[32]++jn (prT true q.body):=by
 obtain⟨f,b⟩:=q
 cases f with
 | nil=>exact absurd rfl hf
 | cons v r =>
  show jn ((freeB (v::r)).map Prod.snd++prT true b)=_
  rw [jn_app (by simp [freeB]) (prT_ne true b)]
  simp only [freeB,List.map_cons,jn_cons,List.map_append,List.flatMap_append,List.flatMap_map,frS]
  simp [kyT,puT]
theorem jn_quest0 {q:Qn} (hf:q.free=[]):jn (prQ q)=jn (prT true q.body):=by
 obtain⟨f,b⟩:=q
 simp only at hf
 subst hf
 rfl
theorem jn_len {nd:Nd} (hok:okF nd) (last:Bool):(jn (prT last nd)).length≤175*kCz nd+155:=by
 have h1:=jn_wts (prT last nd) (prT_ne last nd)
 have h2:=pr_le hok last
 omega
def OneR (s:List UInt8) (e:Ending):Prop :=
 (∃k v l c:Nat,oneF s=some (k,v)∧e=.returned (.tuple #[.agg #[.int .i64 k,.string ⟨s.toArray⟩,.int .i64 v,.int .i64 l,.int .i64 c],.bool true])) ∨
 (oneF s=none∧e=.returned (.tuple #[.agg #[.int .i64 0,.string ⟨#[]⟩,.int .i64 0,.int .i64 0,.int .i64 0],.bool false]))
theorem oneF_len {s:List UInt8} {ts:List Tok} (h:lexT s=.ok ts) (hn:ts.length≠2):oneF s=none:=by
 unfold oneF
 rw [h]
 match ts,hn with
 | [],_=>rfl
 | [a],_=>rfl
 | [a,b],hn=>exact absurd rfl hn
 | a::b::c::l,_=>rfl
theorem oneF_two {s:List UInt8} {t t':Tok} (h:lexT s=.ok [t,t']):oneF s=if t.text=s then some (t.kind,t.val) else none:=by
 unfold oneF
 rw [h]
theorem oneF_err {s:List UInt8} {e:Nat×Nat×Nat} (h:lexT s=.error e):oneF s=none:=by
 unfold oneF
 rw [h]
theorem lexone_calls (s:List UInt8) (w:World) (he:Env w) (hmax:s.length≤281474976710656):Calls Tryz.prog 81 #[.string ⟨s.toArray⟩] w fun e w'=>OneR s e∧Upto [] w w':=by
 have hu0:Upto [] w (w.alloc (.cells #[.int .i64 0,.string ⟨#[]⟩,.int .i64 0,.int .i64 0,.int .i64 0] 83)):=(Upto.refl [] w).alloc _
 have hb0:=kAq w (.cells #[.int .i64 0,.string ⟨#[]⟩,.int .i64 0,.int .i64 0,.int .i64 0] 83)
 have hB0:w.heap.size≤w.heap.size:=Nat.le_refl _
 have he0:=he.ext hu0
 cases hl:lexT s with
 | error lcn =>
  obtain⟨l,c,n⟩:=lcn
  have HT:=Lib.hid (tok_err hl hmax l c n rfl rfl rfl _ he0)
  have HNO:=Lib.hid (oneF_err hl)
  have hn:((n:Int)==0)=false:=by
   rw [beq_eq_false_iff_ne]
   rcases lexT_err hl with h | h<;>omega
  have hn2:((n:Int) != 0)=true:=by rw [bne,hn];rfl
  clear hl he he0
  go_enter Tryz.func81,Tryz.ntmps81
  go_wp2_with fail
  refine HT.out.mono ?_
  rintro e w1 ⟨rfl,hu1⟩
  have hb:=(hu1.alloc (.cells #[.int .i64 l,.int .i64 c] 36)).at hb0 (by simp)
  have hup:=(hu0.trans_ext hu1).alloc (.cells #[.int .i64 l,.int .i64 c] 36)
  clear hu0 hb0 hu1 HT
  go_upto_region 2 with fail
  generalize w1.alloc (.cells #[.int .i64 l,.int .i64 c] 36)=w2 at *
  generalize hBe:w.heap.size=B at *
  have hB:w.heap.size≤B:=by omega
  obtain⟨q0,q1,q2,q3,q4⟩:=cells5 hb
  obtain⟨f0,f1,f2,f3,f4⟩:=frees5 hb
  go_wp2_with fail
  refine bodyPost_ret (v:=.tuple #[.agg #[.int .i64 0,.string ⟨#[]⟩,.int .i64 0,.int .i64 0,.int .i64 0],.bool false]) (by simp [results,Tryz.results81,go_sem,q0,q1,q2,q3,q4]) rfl ⟨Or.inr ⟨HNO.out,rfl⟩,tok_up hup hB _ _ _ _ _⟩
 | ok ts =>
  have HT:=Lib.hid (tok_ok hl hmax _ he0)
  by_cases hn:ts.length=2
  ·obtain⟨t,t',rfl⟩:∃t t',ts=[t,t']:=by
    match ts,hn with
    | [a,b],_=>exact⟨a,b,rfl⟩
   have HF:=Lib.hid (oneF_two hl)
   clear hl he he0 hn
   have hone:Hid (t.text=s→oneF s=some (t.kind,t.val)):=Lib.hid (fun h=>by rw [HF.out,if_pos h])
   have hnone:Hid (t.text≠s→oneF s=none):=Lib.hid (fun h=>by rw [HF.out,if_neg h])
   go_enter Tryz.func81,Tryz.ntmps81
   go_wp2_with fail
   refine HT.out.mono ?_
   rintro e w1 ⟨v,rfl,hv,hu1⟩
   have hb:=(hu1.alloc (.cells #[.int .i64 0,.int .i64 0] 36)).at hb0 (by simp)
   have hup:=(hu0.trans_ext hu1).alloc (.cells #[.int .i64 0,.int .i64 0] 36)
   have hv2:=hv.ext ((Upto.refl [] w1).alloc (.cells #[.int .i64 0,.int .i64 0] 36))
   have hbs:=kAk (hu1.at hb0 (by simp))
   clear hu0 hb0 hu1 HT hv
   go_upto_region 2 with fail
   generalize w1.alloc (.cells #[.int .i64 0,.int .i64 0] 36)=w2 at *
   generalize hBe:w.heap.size=B at *
   have hB:w.heap.size≤B:=by omega
   obtain⟨q0,q1,q2,q3,q4⟩:=cells5 hb
   obtain⟨f0,f1,f2,f3,f4⟩:=frees5 hb
   rcases hv2.at with⟨h1,_⟩ | ⟨g,o,c,rfl,hat⟩
   ·cases h1
   ·obtain⟨c0,c1,c2,c3,c4⟩:=hat 0 _ rfl
    simp only [Nat.zero_mul,Nat.add_zero,bs] at c0 c1 c2 c3 c4
    simp only [List.length_cons,List.length_nil]
    clear hat hv2 HF
    by_cases hx:t.text=s
    ·have hx2:(t.text==s)=true:=by simpa using hx
     have HONE:=Lib.hid (hone.out hx)
     rw [hx] at c1
     clear hone hnone
     rw [hx] at hx2
     clear hx
     go_wp2_with fail
     refine bodyPost_ret (v:=.tuple #[.agg #[.int .i64 t.kind,.string ⟨s.toArray⟩,.int .i64 t.val,.int .i64 t.line,.int .i64 t.col],.bool true]) (by simp [results,Tryz.results81,go_sem,q0,q1,q2,q3,q4]) rfl ⟨Or.inl ⟨t.kind,t.val,t.line,t.col,HONE.out,rfl⟩,tok_up hup hB _ _ _ _ _⟩
    ·have hx2:(t.text==s)=false:=by simpa using hx
     have HNO:=Lib.hid (hnone.out hx)
     clear hx hone hnone
     go_wp2_with fail
     refine bodyPost_ret (v:=.tuple #[.agg #[.int .i64 0,.string ⟨#[]⟩,.int .i64 0,.int .i64 0,.int .i64 0],.bool false]) (by simp [results,Tryz.results81,go_sem,q0,q1,q2,q3,q4]) rfl ⟨Or.inr ⟨HNO.out,rfl⟩,tok_up hup hB _ _ _ _ _⟩
  ·have HNO:=Lib.hid (oneF_len hl hn)
   have hn2:((ts.length:Int)==2)=false:=by
    rw [beq_eq_false_iff_ne]
    omega
   have hn3:((ts.length:Int) != 2)=true:=by rw [bne,hn2];rfl
   clear hl he he0
   go_enter Tryz.func81,Tryz.ntmps81
   go_wp2_with fail
   refine HT.out.mono ?_
   rintro e w1 ⟨v,rfl,hv,hu1⟩
   have hb:=(hu1.alloc (.cells #[.int .i64 0,.int .i64 0] 36)).at hb0 (by simp)
   have hup:=(hu0.trans_ext hu1).alloc (.cells #[.int .i64 0,.int .i64 0] 36)
   obtain⟨va,vc,rfl⟩:=hv.len
   clear hu0 hb0 hu1 HT hv hn
   go_upto_region 2 with fail
   generalize w1.alloc (.cells #[.int .i64 0,.int .i64 0] 36)=w2 at *
   generalize hBe:w.heap.size=B at *
   have hB:w.heap.size≤B:=by omega
   obtain⟨q0,q1,q2,q3,q4⟩:=cells5 hb
   obtain⟨f0,f1,f2,f3,f4⟩:=frees5 hb
   go_wp2_with fail
   refine bodyPost_ret (v:=.tuple #[.agg #[.int .i64 0,.string ⟨#[]⟩,.int .i64 0,.int .i64 0,.int .i64 0],.bool false]) (by simp [results,Tryz.results81,go_sem,q0,q1,q2,q3,q4]) rfl ⟨Or.inr ⟨HNO.out,rfl⟩,tok_up hup hB _ _ _ _ _⟩
def kKw (s:List UInt8):Bool:=match oneF s with | some (k,_)=>decide (k=1) | none=>false
theorem isIdent_calls (s:List UInt8) (w:World) (he:Env w) (hmax:s.length≤281474976710656):Calls Tryz.prog 65 #[.string ⟨s.toArray⟩] w fun e w'=>e=.returned (.bool (kKw s))∧Upto [] w w':=by
 have H:=Lib.hid (lexone_calls s w he hmax)
 go_enter Tryz.func65,Tryz.ntmps65
 go_wp2_with fail
 refine H.out.mono ?_
 rintro e w1 ⟨⟨k,v,l,c,ho,rfl⟩ | ⟨ho,rfl⟩,hu1⟩
 ·have hf:Hid (kKw s=((k:Int)==1)):=Lib.hid (by
   unfold kKw
   rw [ho]
   rw [Bool.eq_iff_iff,beq_iff_eq]
   simp only [decide_eq_true_eq]
   omega)
  have hu2:=hu1.alloc (.cells #[.int .i64 k,.string ⟨s.toArray⟩,.int .i64 v,.int .i64 l,.int .i64 c] 83)
  obtain⟨q0,-,-,-,-⟩:=tok_cells w1 (.int .i64 k) (.string ⟨s.toArray⟩) (.int .i64 v) (.int .i64 l) (.int .i64 c) 36
  clear ho hu1 H
  go_wp2_with fail
  go_ret
  refine⟨kNx ?_,hu2⟩
  rw [hf.out]
 ·have hf:Hid (kKw s=false):=Lib.hid (by unfold kKw;rw [ho])
  have hu2:=hu1.alloc (.cells #[.int .i64 0,.string ⟨#[]⟩,.int .i64 0,.int .i64 0,.int .i64 0] 83)
  clear ho hu1 H
  go_wp2_with fail
  go_ret
  refine⟨kNx ?_,hu2⟩
  rw [hf.out]
def kBj (s:List UInt8):Bool:=decide (s≠[])&&s.all kDq&&(match kEw s with | .ok (k,_)=>decide (k=1) | .error _=>false)
theorem ident_name {s:List UInt8} (h:s.length≤65536):kKw s=kBj s:=by
 rw [Bool.eq_iff_iff]
 constructor
 ·intro hi
  unfold kKw at hi
  cases ho:oneF s with
  | none=>rw [ho] at hi;cases hi
  | some kv =>
   obtain⟨k,v⟩:=kv
   rw [ho] at hi
   simp only [decide_eq_true_eq] at hi
   subst hi
   obtain⟨-,hr⟩:=oneF_real.1 ho
   rcases hr with⟨b,_,_,h4,_⟩ | ⟨h1,h2,h3⟩
   ·cases h4
   ·simp only [kBj,h3,Bool.and_eq_true,decide_eq_true_eq,List.all_eq_true]
    exact⟨⟨h1,h2⟩,trivial⟩
 ·intro hn
  simp only [kBj,Bool.and_eq_true,decide_eq_true_eq,List.all_eq_true] at hn
  obtain⟨⟨h1,h2⟩,h3⟩:=hn
  cases hc:kEw s with
  | error e=>rw [hc] at h3;cases h3
  | ok kv =>
   obtain⟨k,v⟩:=kv
   rw [hc] at h3
   simp only [decide_eq_true_eq] at h3
   subst h3
   unfold kKw
   rw [oneF_real.2 ⟨h,Or.inr ⟨h1,h2,hc⟩⟩]
   rfl
theorem takeWhile_len {p:UInt8→Bool} {s:List UInt8}:((s.takeWhile p).length=s.length)↔s.all p=true:=by
 constructor
 ·intro h
  cases ha:s.all p with
  | true=>rfl
  | false=>have:=take_not ha;omega
 ·intro h
  rw [take_all h]
theorem kGz (s:List UInt8) (w:World) (hmax:s.length≤281474976710656):Calls Tryz.prog 66 #[.string ⟨s.toArray⟩] w fun e w'=>e=.returned (.bool (kBj s))∧Upto [] w w':=by
 have hsz:(ByteArray.mk s.toArray).size=s.length:=rfl
 cases s with
 | nil =>
  go_enter Tryz.func66,Tryz.ntmps66
  go_wp2_with fail
  go_ret
  exact⟨kNx rfl,Upto.refl _ _⟩
 | cons b t =>
  have HC:=Lib.hid (runR_calls (b::t) 0 (by omega) (by omega) w)
  rw [List.drop_zero] at HC
  have HT:=Lib.hid (tokenR_calls b t w hmax)
  have HF:=Lib.hid (show kBj (b::t)=((b::t).all kDq&&(match kEw (b::t) with | .ok (k,_)=>decide (k=1) | .error _=>false)) by simp [kBj])
  have hlen:((b::t).length:Int)≠0:=by simp only [List.length_cons];omega
  have hl0:(((b::t).length:Int)==0)=false:=by rw [beq_eq_false_iff_ne];exact hlen
  have htl:=Lib.hid (takeWhile_len (p:=kDq) (s:=b::t))
  have hta:(b::t).all kDq=true→Hid ((b::t).takeWhile kDq=b::t):=fun h=>Lib.hid (take_all h)
  cases ha:(b::t).all kDq with
  | false =>
   have hne:(((b::t).takeWhile kDq).length:Int)≠(b::t).length:=by
    intro h
    have:=htl.out.1 (by omega)
    rw [ha] at this
    cases this
   rw [ha] at HF
   have HFF:Hid (kBj (b::t)=false):=Lib.hid (by rw [HF.out];rfl)
   have hne2:((((b::t).takeWhile kDq).length:Int)==(b::t).length)=false:=by rw [beq_eq_false_iff_ne];exact hne
   generalize ((b::t).takeWhile kDq).length=n at *
   generalize b::t=s at *
   clear HT HF hta htl ha
   go_enter Tryz.func66,Tryz.ntmps66
   go_wp2_with fail
   refine HC.out.mono ?_
   rintro e w1 ⟨rfl,rfl⟩
   go_wp2_with fail
   go_ret
   exact⟨kNx HFF.out.symm,Upto.refl _ _⟩
  | true =>
   rw [(hta ha).out] at HC
   rw [ha] at HF
   generalize b::t=s at *
   clear hta htl ha
   go_enter Tryz.func66,Tryz.ntmps66
   go_wp2_with fail
   refine HC.out.mono ?_
   rintro e w1 ⟨rfl,rfl⟩
   go_wp2_with fail
   refine HT.out.mono ?_
   rintro e w2 ⟨⟨k,v,n,x,rfl,hcase⟩,hu2⟩
   unfold tkV
   have hu3:=hu2.alloc (.cells #[.int .i64 k,.string ⟨x.toArray⟩,.int .i64 v,.int .i64 0,.int .i64 0] 136)
   rcases hcase with⟨rfl,rfl,hc⟩ | ⟨hn,hc⟩
   ·have hf:Hid (kBj x=((k:Int)==1)):=Lib.hid (by
     rw [HF.out,hc,Bool.true_and,Bool.eq_iff_iff,beq_iff_eq]
     simp only [decide_eq_true_eq]
     omega)
    simp only [show ((0:Nat):Int)=0 from rfl]
    clear HC HT HF hc hu2
    go_wp2_with fail
    go_ret
    exact⟨kNx hf.out.symm,hu3⟩
   ·have hn0:((n:Int)==0)=false:=by rw [beq_eq_false_iff_ne];omega
    have hf:Hid (kBj s=false):=Lib.hid (by rw [HF.out,hc];rfl)
    clear HC HT HF hc hu2
    go_wp2_with fail
    go_ret
    exact⟨kNx hf.out.symm,hu3⟩
theorem smalld_calls (n:Nat) (h:n<100) (w:World):Calls Tryz.prog 184 #[.int .i64 n] w fun e w'=>e=.returned (.string ⟨(digF 3 n).toArray⟩)∧Upto [] w w':=by
 have HU:=Lib.hid (Upto.refl [] w)
 have hn0:(0:Int)≤n:=by omega
 by_cases h1:n<10
 ·have hI:(n:Int)<10:=by omega
  go_enter Tryz.func184,Tryz.ntmps184
  go_wp2_with fail
  go_ret
  refine⟨congrArg (fun b=>Ending.returned (Value.string b)) (ByteArray.ext ?_),HU.out⟩
  try (rename_i hk;clear hk)
  clear hI hn0 HU h
  revert h1
  revert n
  decide +kernel
 ·have hI:¬(n:Int)<10:=by omega
  go_enter Tryz.func184,Tryz.ntmps184
  go_wp2_with fail
  go_ret
  refine⟨congrArg (fun b=>Ending.returned (Value.string b)) (ByteArray.ext ?_),HU.out⟩
  try (rename_i hk;clear hk)
  clear hI hn0 HU
  revert h1
  revert h
  revert n
  decide +kernel
theorem fmtint_calls (n:Nat) (h:n<100) (w:World):Calls Tryz.prog 162 #[.int .i64 n,.int .i64 10] w fun e w'=>e=.returned (.string ⟨(digF 3 n).toArray⟩)∧Upto [] w w':=by
 have HC:=Lib.hid (smalld_calls n h)
 have hn0:(0:Int)≤n:=by omega
 have hI:(n:Int)<100:=by omega
 generalize (digF 3 n)=R at *
 go_enter Tryz.func162,Tryz.ntmps162
 go_wp2_with fail
 refine (HC.out _).mono ?_
 rintro e w5 ⟨rfl,hu5⟩
 have HU5:=Lib.hid hu5
 clear hu5
 go_wp2_with fail
 go_ret
 exact⟨rfl,HU5.out⟩
theorem itoa1_calls (n:Nat) (h:n<100) (w:World):Calls Tryz.prog 151 #[.int .i64 n] w fun e w'=>e=.returned (.string ⟨(digF 3 n).toArray⟩)∧Upto [] w w':=by
 have HC:=Lib.hid (fmtint_calls n h)
 have hn0:(0:Int)≤n:=by omega
 have hI:(n:Int)<100:=by omega
 generalize (digF 3 n)=R at *
 go_enter Tryz.func151,Tryz.ntmps151
 go_wp2_with fail
 refine (HC.out _).mono ?_
 rintro e w5 ⟨rfl,hu5⟩
 have HU5:=Lib.hid hu5
 clear hu5
 go_wp2_with fail
 go_ret
 exact⟨rfl,HU5.out⟩
theorem itoa_calls (n:Nat) (h:n<100) (w:World):Calls Tryz.prog 135 #[.int .i64 n] w fun e w'=>e=.returned (.string ⟨(digF 3 n).toArray⟩)∧Upto [] w w':=by
 have HC:=Lib.hid (itoa1_calls n h)
 have hn0:(0:Int)≤n:=by omega
 have hI:(n:Int)<100:=by omega
 generalize (digF 3 n)=R at *
 go_enter Tryz.func135,Tryz.ntmps135
 go_wp2_with fail
 refine (HC.out _).mono ?_
 rintro e w5 ⟨rfl,hu5⟩
 have HU5:=Lib.hid hu5
 clear hu5
 go_wp2_with fail
 go_ret
 exact⟨rfl,HU5.out⟩
theorem QnV.open {w:World} {P:Nat→Prop} {q:Qn} {v:Value} (h:QnV w P q v):∃(f1:Option Addr) (f3:Nat) (op:Int) (a1:Option Addr) (n1 c1:Nat) (so n m:Int) (a2:Option Addr) (n2 c2:Nat),v=.agg #[.slice f1 q.free.length f3,.int .i64 op,.slice a1 n1 c1,.int .i64 so,.int .i64 n,.int .i64 m,.slice a2 n2 c2]∧VarsV w P (.slice f1 q.free.length f3) q.free∧NdV w P q.body (.agg #[.int .i64 op,.slice a1 n1 c1,.int .i64 so,.int .i64 n,.int .i64 m,.slice a2 n2 c2]):=by
 obtain⟨vf,a0,a1,a2,a3,a4,a5,rfl,h1,h2⟩:=h
 obtain⟨fa,fc,rfl⟩:=h1.len
 obtain⟨op,x1,x2,x3,so,n,m,y1,y2,y3,hs⟩:=h2.six
 simp only [Value.agg.injEq,Array.mk.injEq,List.cons.injEq,and_true] at hs
 obtain⟨rfl,rfl,rfl,rfl,rfl,rfl⟩:=hs
 exact⟨fa,fc,op,x1,x2,x3,so,n,m,y1,y2,y3,rfl,h1,h2⟩
theorem sizes_memb {x:Nd}:∀{l:List Nd},x∈l→kCz x≤kBk l
 | a::l,h=>by
  simp only [kBk]
  rcases List.mem_cons.1 h with rfl | h
  ·omega
  ·have:=sizes_memb h;omega
structure ITok where
 kind:Int
 text:List UInt8
 val:Int
 line:Int
 col:Int
def itC (t:ITok):List Value:=[.int .i64 t.kind,.string ⟨t.text.toArray⟩,.int .i64 t.val,.int .i64 t.line,.int .i64 t.col]
def IToks (w:World) (v:Value) (ts:List ITok):Prop:=SlN w 5 v ts.length (ts.flatMap itC)
theorem IToks.len {w:World} {v:Value} {ts:List ITok} (h:IToks w v ts):∃a c,v=.slice a ts.length c:=SlN.len h
theorem IToks.ext {w w':World} {v:Value} {ts:List ITok} (h:IToks w v ts) (hu:Upto [] w w'):IToks w' v ts:=SlN.ext h hu
def ITokAt (w:World) (g o:Nat) (ts:List ITok):Prop:=∀(i:Nat) t,ts[i]?=some t→w.cell? ⟨g,o+i*5,none⟩=some (.int .i64 t.kind)∧w.cell? ⟨g,o+i*5+1,none⟩=some (.string ⟨t.text.toArray⟩)∧w.cell? ⟨g,o+i*5+2,none⟩=some (.int .i64 t.val)∧w.cell? ⟨g,o+i*5+3,none⟩=some (.int .i64 t.line)∧w.cell? ⟨g,o+i*5+4,none⟩=some (.int .i64 t.col)
theorem IToks.at {w:World} {v:Value} {ts:List ITok} (h:IToks w v ts):(ts=[]∧∃a c,v=.slice a 0 c)∨∃g o c,v=.slice (some ⟨g,o,none⟩) ts.length c∧ITokAt w g o ts:=by
 rcases h.2 with⟨h0,h1⟩ | ⟨g,o,c,h1,hc⟩
 ·exact Or.inl ⟨List.eq_nil_of_length_eq_zero h0,h1⟩
 ·refine Or.inr ⟨g,o,c,h1,fun i t ht=>?_⟩
  have key:∀j u,j<5→(itC t)[j]?=some u→w.cell? ⟨g,o+(i*5+j),none⟩=some u:=fun j u hj hu=>hc _ _ ((flatMap_at itC 5 (fun _=>rfl) ts i j t ht hj).trans hu)
  exact⟨key 0 _ (by decide) rfl,key 1 _ (by decide) rfl,key 2 _ (by decide) rfl,key 3 _ (by decide) rfl,key 4 _ (by decide) rfl⟩
theorem ITokAt.ext {w w':World} {g o:Nat} {ts:List ITok} (h:ITokAt w g o ts) (hu:Upto [] w w'):ITokAt w' g o ts:=by
 intro i t ht
 obtain⟨h0,h1,h2,h3,h4⟩:=h i t ht
 have k:∀{p:Addr} {u:Value},w.cell? p=some u→w'.cell? p=some u:=fun hp=>(hu.cell (World.block_lt_of_cell? w _ hp) (by simp)).trans hp
 exact⟨k h0,k h1,k h2,k h3,k h4⟩
def eofI (t:ITok):Prop:=t.kind=0∧t.text=[]∧t.val=0
instance (t:ITok):Decidable (eofI t):=inferInstanceAs (Decidable (_∧_∧_))
def goodI (t:ITok):Prop:=∃k v:Nat,oneF t.text=some (k,v)∧t.kind=k∧t.val=v
instance (t:ITok):Decidable (goodI t) :=
 match h:oneF t.text with
 | none=>isFalse (by rintro⟨k,v,h1,_⟩;rw [h] at h1;cases h1)
 | some (k,v)=>if h2:t.kind=k∧t.val=v then isTrue ⟨k,v,h,h2⟩ else isFalse (by rintro⟨k',v',h1,h3⟩;rw [h] at h1;cases h1;exact h2 h3)
structure JnI (w:World) (ls:List (List UInt8)) (l:Value) (wr:World):Prop where
 row:wr.ownsRow 0 9 1 l ls.length (ls.map sb)
 own:∀g,l.ownBlock=some g→w.heap.size≤g
 up:Upto [] w wr
theorem JnI.ext {w wr wr':World} {ls:List (List UInt8)} {l:Value} (h:JnI w ls l wr) (hu:Upto [] wr wr'):JnI w ls l wr':=⟨kIx h.row hu (by simp),h.own,h.up.trans_ext hu⟩
theorem JnI.app {w wr wr':World} {ls:List (List UInt8)} {l:Value} {x:List UInt8} {src:Obj} {n:Nat} {b':Option Addr} {c':Nat} (h:JnI w ls l wr) (hn:ls.length=n) (ho:wr'.ownsRow 0 9 1 (.slice b' (n+1) c') (n+1) (ls.map sb++[sb x])) (hu:Upto l.ownBlock.toList (wr.alloc src) wr') (hw:∀g,(Value.slice b' (n+1) c').ownBlock=some g→l.ownBlock=some g∨(wr.alloc src).heap.size≤g) :
  JnI w (ls++[x]) (.slice b' (n+1) c') wr':=by
 subst hn
 have h':=h.ext ((Upto.refl [] wr).alloc src)
 refine⟨?_,fun g hg=>(hw g hg).elim (h.own g) (fun h=>Nat.le_trans h'.up.size h),h'.up.trans hu (fun k hk=>Or.inr (h.own k (Option.mem_toList.1 hk)))⟩
 rw [List.map_append]
 simpa using ho
theorem JnI.app' {w wr wr':World} {ls:List (List UInt8)} {l:Value} {x:List UInt8} {src:Obj} {n:Nat} {b':Option Addr} {c':Nat} (h:JnI w ls l wr) (hn:ls.length=n) (ho:wr'.ownsRow 0 9 1 (.slice b' (n+1) c') (n+1) (ls.map sb++[sb x])) (hu:Upto l.ownBlock.toList (wr.alloc src) wr') (hw:∀g,(Value.slice b' (n+1) c').ownBlock=some g→l.ownBlock=some g∨(wr.alloc src).heap.size≤g) :
  JnI w (ls++[x]) (.slice b' (n+1) c') wr':=h.app hn ho hu hw
theorem hasc_calls (s:List UInt8) (w:World) (he:Env w) (hmax:s.length≤281474976710656):Calls Tryz.prog 127 #[.string ⟨s.toArray⟩] w fun e w'=>e=.returned (.bool (!kKw s))∧Upto [] w w':=by
 have H:=Lib.hid (isIdent_calls s w he hmax)
 generalize kKw s=b at *
 go_enter Tryz.func127,Tryz.ntmps127
 go_wp2_with fail
 refine H.out.mono ?_
 rintro e w1 ⟨rfl,hu1⟩
 have HU1:=Lib.hid hu1
 clear hu1
 cases b
 ·go_wp2_with fail
  go_ret
  exact⟨rfl,HU1.out⟩
 ·go_wp2_with fail
  go_ret
  exact⟨rfl,HU1.out⟩
theorem indexf_calls (xs:List (List UInt8)) (a:Option Addr) (c:Nat) (w:World) (he:Env w) (hl:xs.length≤10000000) (hx:∀x∈xs,x.length≤10000000) (hc:∀i x,xs[i]?=some x→∃g o,a=some ⟨g,o,none⟩∧w.cell? ⟨g,o+i,none⟩=some (.string ⟨x.toArray⟩)) :
  Calls Tryz.prog 149 #[.slice a xs.length c,.func (.func 127) #[] #[]] w fun e w'=>(∃k:Int,e=.returned (.int .i64 k)∧(0≤k↔xs.all kKw=false))∧Upto [] w w':=by
 have HE:Hid (∀u,Upto [] w u→Env u):=Lib.hid (fun u hu=>he.ext hu)
 have HC:=Lib.hid hc
 have HX:=Lib.hid hx
 generalize hB:xs.all kKw=B at *
 have HB:=Lib.hid hB
 clear hB
 generalize hL:xs.length=L at *
 have HL:=Lib.hid hL
 have hL0:(0:Int)≤L:=by omega
 have hL1:(L:Int)≤10000000:=by omega
 clear he hc hx hL
 go_enter Tryz.func149,Tryz.ntmps149
 go_wp2_with fail
 go_loopw [8] (fun i wr=>∃j:Nat,j≤L∧i=.int .i64 j∧Hid (∀q x,q<j→xs[q]?=some x→kKw x=true)∧Hid (Upto [] w wr)) (fun i _=>L-(intOf i).toNat)
 case atStart=>exact⟨0,by omega,rfl,Lib.hid (fun q x hq=>by omega),Lib.hid (Upto.refl _ _)⟩
 case round =>
  obtain⟨j,hj,rfl,HA,HU⟩:=hrel
  have hj0:(0:Int)≤j:=by omega
  rcases Nat.lt_or_ge j L with hlt | hge
  ·have hltI:(j:Int)<L:=by omega
   obtain⟨x,hx⟩:∃x,xs[j]?=some x:=⟨_,List.getElem?_eq_getElem (by have:=HL.out;omega)⟩
   have hmem:=List.mem_of_getElem? hx
   obtain⟨g,o,rfl,c0⟩:=HC.out j x hx
   replace c0:=kAw HU.out c0
   have HK:=Lib.hid (hasc_calls x wr (HE.out wr HU.out) (by have:=HX.out x hmem;omega))
   have hbb:kKw x=true∨kKw x=false:=by cases kKw x<;>simp
   rcases hbb with hb | hb
   ·rw [hb] at HK
    have HA2:Hid (∀q x,q<j+1→xs[q]?=some x→kKw x=true):=Lib.hid (fun q y hq hy=>by
     by_cases hqj:q=j
     ·subst hqj
      rw [hx] at hy
      cases hy
      exact hb
     ·exact HA.out q y (by omega) hy)
    clear hx hmem hb
    go_wp2_with fail
    refine HK.out.mono ?_
    rintro e w5 ⟨rfl,hu5⟩
    have HU5:=Lib.hid (HU.out.trans_ext hu5)
    clear hu5
    go_wp2_with fail
    go_roundw
    case rel=>exact⟨j+1,by omega,by go_num,HA2,HU5⟩
    case measure=>simp [intOf];omega
   ·rw [hb] at HK
    have HF:Hid (B=false):=Lib.hid (by
     rw [←HB.out,Bool.eq_false_iff]
     intro h
     have:=List.all_eq_true.1 h x hmem
     rw [hb] at this
     cases this)
    clear hx hmem hb
    go_wp2_with fail
    refine HK.out.mono ?_
    rintro e w5 ⟨rfl,hu5⟩
    have HU5:=Lib.hid (HU.out.trans_ext hu5)
    clear hu5
    go_wp2_with fail
    go_ret
    exact⟨⟨(j:Int),rfl,fun _=>HF.out,fun _=>hj0⟩,HU5.out⟩
  ·have hgeI:¬(j:Int)<L:=by omega
   have HF:Hid (B=true):=Lib.hid (by
    rw [←HB.out,List.all_eq_true]
    intro x hx
    obtain⟨q,hq,rfl⟩:=List.mem_iff_getElem.1 hx
    exact HA.out q _ (by have:=HL.out;omega) (List.getElem?_eq_getElem hq))
   go_wp2_with fail
   go_ret
   exact⟨⟨-1,rfl,fun h=>absurd h (by decide),fun h=>by rw [HF.out] at h;cases h⟩,HU.out⟩
theorem kGq (xs:List (List UInt8)) (a:Option Addr) (c:Nat) (w:World) (he:Env w) (hl:xs.length≤10000000) (hx:∀x∈xs,x.length≤10000000) (hc:∀i x,xs[i]?=some x→∃g o,a=some ⟨g,o,none⟩∧w.cell? ⟨g,o+i,none⟩=some (.string ⟨x.toArray⟩)) :
  Calls Tryz.prog 126 #[.slice a xs.length c,.func (.func 127) #[] #[]] w fun e w'=>e=.returned (.bool (!xs.all kKw))∧Upto [] w w':=by
 have H:=Lib.hid (indexf_calls xs a c w he hl hx hc)
 clear hc hx hl he
 generalize hL:xs.length=L at *
 generalize xs.all kKw=b at *
 clear hL
 go_enter Tryz.func126,Tryz.ntmps126
 go_wp2_with fail
 refine H.out.mono ?_
 rintro e w1 ⟨⟨k,rfl,hk⟩,hu1⟩
 have HU1:=Lib.hid hu1
 clear hu1
 cases b
 ·have h0:(0:Int)≤k:=hk.2 rfl
  clear hk
  go_wp2_with fail
  go_ret
  exact⟨rfl,HU1.out⟩
 ·have h0:¬(0:Int)≤k:=fun h=>by have:=hk.1 h;cases this
  clear hk
  go_wp2_with fail
  go_ret
  refine⟨?_,HU1.out⟩
  show Ending.returned (.bool (decide (0≤k)))=_
  rw [decide_eq_false (by omega)]
  rfl
theorem count_calls:∀(k:Nat) (nd:Nd),kCz nd≤k→k≤10000000→∀(v:Value) (w:World) (P:Nat→Prop),NdV w P nd v→Calls Tryz.prog 36 #[v] w fun e w'=>e=.returned (.int .i64 (kCz nd))∧Upto [] w w'
 | 0,nd,hk,_,_,_,_,_=>by have:=kJx nd;omega
 | k+1,.mk op nms so nn mm l,hk,hk7,v,w,P,h=>by
  obtain⟨a1,c1,a2,c2,rfl,-,hg⟩:=h.open
  have HG:=Lib.hid hg
  have hsz:kBk l≤k:=by simp only [kCz] at hk;omega
  have HSZ:=Lib.hid hsz
  have HE:Hid (kCz (.mk op nms so nn mm l)=1+kBk l):=Lib.hid (by simp only [kCz])
  have HLEN:Hid (l.length≤10000000):=Lib.hid (by have:=kXj l;omega)
  have hlen:=HLEN.out
  have hu1:Upto [] w (w.alloc (.cells #[.int .i64 op,.slice a1 nms.length c1,.int .i64 so,.int .i64 nn,.int .i64 mm,.slice a2 l.length c2] 25)):=(Upto.refl [] w).alloc _
  have HB1:=Lib.hid (kAq w (.cells #[.int .i64 op,.slice a1 nms.length c1,.int .i64 so,.int .i64 nn,.int .i64 mm,.slice a2 l.length c2] 25))
  have HU1:=Lib.hid hu1
  generalize hll:l.length=ll at *
  have HLL:=Lib.hid hll
  have hL0:(0:Int)≤ll:=by omega
  have hL1:(ll:Int)≤10000000:=by omega
  clear h hg hsz hll hlen hk hu1
  go_enter Tryz.func36,Tryz.ntmps36
  go_wp2_with fail
  go_loopw [3,4] (fun s i wr=>∃j:Nat,j≤ll∧i=.int .i64 j∧s=.int .i64 (1+(kBk (l.take j):Int))∧Hid (Upto [] (w.alloc (.cells #[.int .i64 op,.slice a1 nms.length c1,.int .i64 so,.int .i64 nn,.int .i64 mm,.slice a2 ll c2] 25)) wr)) (fun _ i _=>ll-(intOf i).toNat)
  case atStart=>exact⟨0,by omega,rfl,by simp [kBk],Lib.hid (Upto.refl _ _)⟩
  case round =>
   obtain⟨j,hj,rfl,rfl,HU⟩:=hrel
   have hb:=HU.out.at HB1.out (by simp)
   have y5:=kAz hb 5
   simp only [List.getElem?_toArray,List.getElem?_cons_zero,List.getElem?_cons_succ] at y5
   rcases Nat.lt_or_ge j ll with hlt | hge
   ·obtain⟨x,hx⟩:∃x,l[j]?=some x:=⟨_,List.getElem?_eq_getElem (by have:=HLL.out;omega)⟩
    obtain⟨g,o,xo,xn1,xn2,xn3,xs,xm,xq,xl1,xl2,xl3,rfl,d0,d1,d2,d3,d4,d5,hnx⟩:=HG.out j x hx
    have hw:=HU1.out.trans_ext HU.out
    replace d0:=kAw hw d0
    replace d1:=kAw hw d1
    replace d2:=kAw hw d2
    replace d3:=kAw hw d3
    replace d4:=kAw hw d4
    replace d5:=kAw hw d5
    have hst:=sizesF_take l j x hx
    have HST:=Lib.hid hst
    have HXX:=Lib.hid hx
    have HC:=Lib.hid (count_calls k x (by have:=HSZ.out;omega) (by omega) _ wr P (hnx.ext hw))
    have hltI:(j:Int)<ll:=by omega
    have hj0:(0:Int)≤j:=by omega
    have hb1:=HSZ.out
    have hb2:=kJx x
    have hb3:=kQj x
    have hb4:=kKq (l.take j)
    generalize hA:kBk (l.take j)=A at *
    generalize hB:kCz x=B at *
    have hA0:(0:Int)≤A:=by omega
    have hA1:(A:Int)≤10000000:=by omega
    have hB0:(0:Int)≤B:=by omega
    have hB1:(B:Int)≤10000000:=by omega
    have HAB:=Lib.hid (And.intro hA hB)
    clear hst hnx hx hb1 hb2 hb3 hb4 hA hB hb hw
    go_wp2_with fail
    refine HC.out.mono ?_
    rintro e w5 ⟨rfl,hu5⟩
    have HU5:=Lib.hid (HU.out.trans_ext hu5)
    clear hu5
    go_wp2_with fail
    go_roundw
    case rel=>exact⟨j+1,by omega,by go_num,by rw [HST.out.1];congr 1;omega,HU5⟩
    case measure=>simp [intOf];omega
   ·obtain rfl:j=ll:=by omega
    have hgeI:¬(j:Int)<j:=by omega
    have HT:Hid (l.take j=l):=Lib.hid (by rw [←HLL.out,List.take_length])
    rw [HT.out]
    have hq1:=HSZ.out
    have hq2:=kKq l
    generalize hA:kBk l=A at *
    have hA0:(0:Int)≤A:=by omega
    have hA1:(A:Int)≤10000000:=by omega
    have HUF:=Lib.hid (HU1.out.trans_ext HU.out)
    clear hq1 hq2 hA hb
    go_wp2
    go_ret
    exact⟨by rw [HE.out];exact ret_int (by omega),HUF.out⟩
theorem deep_calls:∀(k:Nat) (nd:Nd),kCz nd≤k→k≤10000000→∀(v:Value) (w:World) (P:Nat→Prop),NdV w P nd v→Calls Tryz.prog 19 #[v] w fun e w'=>e=.returned (.int .i64 (kNw nd))∧Upto [] w w'
 | 0,nd,hk,_,_,_,_,_=>by have:=kJx nd;omega
 | k+1,.mk op nms so nn mm l,hk,hk7,v,w,P,h=>by
  obtain⟨a1,c1,a2,c2,rfl,-,hg⟩:=h.open
  have HG:=Lib.hid hg
  have hsz:kBk l≤k:=by simp only [kCz] at hk;omega
  have HSZ:=Lib.hid hsz
  have HE:Hid (kNw (.mk op nms so nn mm l)=kLz l+1):=Lib.hid (by simp only [kNw])
  have HLEN:Hid (l.length≤10000000):=Lib.hid (by have:=kXj l;omega)
  have hlen:=HLEN.out
  have hu1:Upto [] w (w.alloc (.cells #[.int .i64 op,.slice a1 nms.length c1,.int .i64 so,.int .i64 nn,.int .i64 mm,.slice a2 l.length c2] 25)):=(Upto.refl [] w).alloc _
  have HB1:=Lib.hid (kAq w (.cells #[.int .i64 op,.slice a1 nms.length c1,.int .i64 so,.int .i64 nn,.int .i64 mm,.slice a2 l.length c2] 25))
  have HU1:=Lib.hid hu1
  generalize hll:l.length=ll at *
  have HLL:=Lib.hid hll
  have hL0:(0:Int)≤ll:=by omega
  have hL1:(ll:Int)≤10000000:=by omega
  clear h hg hsz hll hlen hk hu1
  go_enter Tryz.func19,Tryz.ntmps19
  go_wp2_with fail
  go_loopw [3,4] (fun s i wr=>∃j:Nat,j≤ll∧i=.int .i64 j∧s=.int .i64 ((kLz (l.take j):Int))∧Hid (Upto [] (w.alloc (.cells #[.int .i64 op,.slice a1 nms.length c1,.int .i64 so,.int .i64 nn,.int .i64 mm,.slice a2 ll c2] 25)) wr)) (fun _ i _=>ll-(intOf i).toNat)
  case atStart=>exact⟨0,by omega,rfl,by simp [kLz],Lib.hid (Upto.refl _ _)⟩
  case round =>
   obtain⟨j,hj,rfl,rfl,HU⟩:=hrel
   have hb:=HU.out.at HB1.out (by simp)
   have y5:=kAz hb 5
   simp only [List.getElem?_toArray,List.getElem?_cons_zero,List.getElem?_cons_succ] at y5
   rcases Nat.lt_or_ge j ll with hlt | hge
   ·obtain⟨x,hx⟩:∃x,l[j]?=some x:=⟨_,List.getElem?_eq_getElem (by have:=HLL.out;omega)⟩
    obtain⟨g,o,xo,xn1,xn2,xn3,xs,xm,xq,xl1,xl2,xl3,rfl,d0,d1,d2,d3,d4,d5,hnx⟩:=HG.out j x hx
    have hw:=HU1.out.trans_ext HU.out
    replace d0:=kAw hw d0
    replace d1:=kAw hw d1
    replace d2:=kAw hw d2
    replace d3:=kAw hw d3
    replace d4:=kAw hw d4
    replace d5:=kAw hw d5
    have hst:=sizesF_take l j x hx
    have HST:=Lib.hid hst
    have HXX:=Lib.hid hx
    have HC:=Lib.hid (deep_calls k x (by have:=HSZ.out;omega) (by omega) _ wr P (hnx.ext hw))
    have hltI:(j:Int)<ll:=by omega
    have hj0:(0:Int)≤j:=by omega
    have hb1:=HSZ.out
    have hb2:=kJx x
    have hb3:=kQj x
    have hb4:=kKq (l.take j)
    generalize hA:kLz (l.take j)=A at *
    generalize hB:kNw x=B at *
    have hA0:(0:Int)≤A:=by omega
    have hA1:(A:Int)≤10000000:=by omega
    have hB0:(0:Int)≤B:=by omega
    have hB1:(B:Int)≤10000000:=by omega
    have HAB:=Lib.hid (And.intro hA hB)
    clear hst hnx hx hb1 hb2 hb3 hb4 hA hB hb hw
    have HMX:Hid (kLz (l.take (j+1))=max A B):=Lib.hid (by rw [depthsF_take l j x HXX.out,HAB.out.1,HAB.out.2])
    rcases Nat.lt_or_ge A B with hab | hab
    ·have habI:(A:Int)<B:=by omega
     have hmx:max (A:Int) B=B:=by omega
     go_wp2_with fail
     refine HC.out.mono ?_
     rintro e w5 ⟨rfl,hu5⟩
     have HU5:=Lib.hid (HU.out.trans_ext hu5)
     clear hu5
     go_wp2_with fail
     go_roundw
     case rel=>exact⟨j+1,by omega,by go_num,by rw [HMX.out];first | rfl | (congr 1;omega),HU5⟩
     case measure=>simp [intOf];omega
    ·have habI:(B:Int)≤A:=by omega
     have hmx:max (A:Int) B=A:=by omega
     go_wp2_with fail
     refine HC.out.mono ?_
     rintro e w5 ⟨rfl,hu5⟩
     have HU5:=Lib.hid (HU.out.trans_ext hu5)
     clear hu5
     go_wp2_with fail
     go_roundw
     case rel=>exact⟨j+1,by omega,by go_num,by rw [HMX.out];first | rfl | (congr 1;omega),HU5⟩
     case measure=>simp [intOf];omega
   ·obtain rfl:j=ll:=by omega
    have hgeI:¬(j:Int)<j:=by omega
    have HT:Hid (l.take j=l):=Lib.hid (by rw [←HLL.out,List.take_length])
    rw [HT.out]
    have hq1:=HSZ.out
    have hq2:=kKq l
    generalize hA:kLz l=A at *
    have hA0:(0:Int)≤A:=by omega
    have hA1:(A:Int)≤10000000:=by omega
    have HUF:=Lib.hid (HU1.out.trans_ext HU.out)
    clear hq1 hq2 hA hb
    go_wp2
    go_ret
    exact⟨by rw [HE.out];exact ret_int (by omega),HUF.out⟩
end Go.Proofs.YtkhbpebpljdifaaGreatDoor
