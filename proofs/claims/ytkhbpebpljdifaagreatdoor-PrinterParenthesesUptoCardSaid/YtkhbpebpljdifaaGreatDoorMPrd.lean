/- Merged texts. -/
import Derived.Test.YtkhbpebpljdifaaGreatDoorMPrc
import Derived.Laws.EntriesVeiled
import Derived.RangeFuncNested
import Derived.RangeFuncBound
import Derived.RangeFuncCalls
import Derived.RangeFuncLeaves
import Derived.RangeFuncBox
import Derived.Shelf.Abstract
import Derived.OwnWalkIn
import Derived.TacticsInMore
import Derived.LoopNIn
import Derived.LoopIn
set_option maxRecDepth 100000
set_option maxHeartbeats 25600000
namespace Go.Proofs.YtkhbpebpljdifaaGreatDoor
open Go.RowKit Go.PL Go.Maps
theorem atom_calls (w:World) (p:Nat) (l:List Tok) (s s':PS) (n:Nd) (hx:Cx w p l) (h:RdAt w p l s) (hd:s.dp≤256) (he:atomP l s=some (n,s')) :
  Calls Tryz.prog 161 #[.pointer (some ⟨p,0,none⟩)] w (kMk w p l s n s'):=by
 have HpB:Hid (p<w.heap.size):=Lib.hid h.lt
 have hu0:Upto [] w (w.alloc (.cells #[.int .i64 0,.slice none 0 0,.int .i64 0,.int .i64 0,.int .i64 0,.slice none 0 0] 34)):=(Upto.refl [] w).alloc _
 have HR0:=Lib.hid (h.ext hu0)
 have HX0:=Lib.hid (hx.ext hu0)
 have HU0:Hid (Upto [p] w (w.alloc (.cells #[.int .i64 0,.slice none 0 0,.int .i64 0,.int .i64 0,.int .i64 0,.slice none 0 0] 34))):=Lib.hid (hu0.mono (by simp))
 have HNew:Hid ((w.alloc (.cells #[.int .i64 0,.slice none 0 0,.int .i64 0,.int .i64 0,.int .i64 0,.slice none 0 0] 34)).heap[w.heap.size]?=some (.cells #[.int .i64 0,.slice none 0 0,.int .i64 0,.int .i64 0,.int .i64 0,.slice none 0 0] 34 (0,0))):=Lib.hid (kAq _ _)
 have hlen:=hx.len
 have hin:=h.inb
 have HF:Hid (Fin l):=Lib.hid h.fin
 have HA1:=Lib.hid (kEq HF.out hin).1
 have HN:=Lib.hid (kMx _ p l s HR0.out hlen)
 have he0:=he
 unfold atomP at he
 simp only at he
 clear hx h hu0
 cases hp:isF l [40] (kAj l s).2 with
 | true =>
  rw [hp] at he
  simp only [if_true] at he
  have HE:=Lib.hid he
  have HK:=Lib.hid (isF_kind hp)
  have HP:=Lib.hid hp
  clear he he0 hp
  go_enter Tryz.func161,Tryz.ntmps161
  go_wp2_with fail
  refine HN.out.mono ?_
  rintro e w1 ⟨rfl,hR1,hu1⟩
  have HI:=Lib.hid (is_calls w1 p l (kAj l s).2 [40] hR1)
  rw [HP.out] at HI
  have HR1:=Lib.hid hR1
  have HU1:=Lib.hid hu1
  clear hR1 hu1
  go_wp2_with fail
  refine HI.out.mono ?_
  rintro e w2 ⟨rfl,hu2⟩
  have HU2:=Lib.hid (HU1.out.trans_ext hu2)
  have HR2:=Lib.hid (HR1.out.ext hu2)
  have HX2:=Lib.hid (HX0.out.upto HU2.out)
  clear hu2
  go_wp2_with fail
  refine (call_calls w2 p l (kAj l s).2 s' n (kAj l s).1 HX2.out HR2.out (by rw [HA1.out.dp];exact hd) HK.out HE.out).mono ?_
  rintro e w3 ⟨vv,rfl,hn,hR3,hu3,ha⟩
  obtain⟨oa,na1,na2,na3,sa,ma,qa,la1,la2,la3,rfl⟩:=hn.six
  have hz:=hu3.at (HU2.out.at HNew.out (by have:=HpB.out;simp;omega)) (by have:=HpB.out;simp;omega)
  obtain⟨z0,z1,z2,z3,z4,z5⟩:=kAx hz
  obtain⟨y0,y1,y2,y3,y4,y5⟩:=kDk hz
  have HZ:=Lib.hid hz
  have HN3:=Lib.hid hn
  have HR3:=Lib.hid hR3
  have HU3:=Lib.hid hu3
  have HA:=Lib.hid ha
  clear hn hR3 hu3 ha hz
  go_wp2_with fail
  have hst:=kEz HZ.out (.int .i64 oa) (.slice na1 na2 na3) (.int .i64 sa) (.int .i64 ma) (.int .i64 qa) (.slice la1 la2 la3)
  obtain⟨q0,q1,q2,q3,q4,q5⟩:=kAx hst
  exact bodyPost_ret (v:=.agg #[.int .i64 oa,.slice na1 na2 na3,.int .i64 sa,.int .i64 ma,.int .i64 qa,.slice la1 la2 la3]) (by simp [results,Tryz.results161,go_sem,q0,q1,q2,q3,q4,q5]) rfl (kEx (Nat.le_refl _) HpB.out ((HU0.out.trans_same HU2.out).trans_same HU3.out) HR3.out HZ.out (HA1.out.trans HA.out) HN3.out (fun b hb _=>by have h1:=(HU0.out.trans_same HU2.out).size;have h2:=HU2.out.size;have h3:=kAk HNew.out;unfold New at hb ⊢;omega))
 | false =>
  rw [hp] at he
  simp only [Bool.false_eq_true,if_false] at he
  have HP:=Lib.hid hp
  clear hp he0
  cases hi:isF l [105,115] (kAj l s).2 with
  | true =>
   rw [hi] at he
   simp only [if_true,Option.some.injEq,Prod.mk.injEq] at he
   obtain⟨rfl,rfl⟩:=he
   have HII:=Lib.hid hi
   clear hi
   go_enter Tryz.func161,Tryz.ntmps161
   go_wp2_with fail
   refine HN.out.mono ?_
   rintro e w1 ⟨rfl,hR1,hu1⟩
   have HI:=Lib.hid (is_calls w1 p l (kAj l s).2 [40] hR1)
   rw [HP.out] at HI
   have HR1:=Lib.hid hR1
   have HU1:=Lib.hid hu1
   clear hR1 hu1
   go_wp2_with fail
   refine HI.out.mono ?_
   rintro e w2 ⟨rfl,hu2⟩
   have HU2:=Lib.hid (HU1.out.trans_ext hu2)
   have HR2:=Lib.hid (HR1.out.ext hu2)
   have HT:=Lib.hid (kEj w2 p l (kAj l s).2 [105,115] HR2.out hlen)
   rw [HII.out] at HT
   have HTS:Hid ((kDz l [105,115] (kAj l s).2).2=kBx (kAj l s).2):=Lib.hid (by unfold kDz;rw [if_pos HII.out])
   clear hu2
   go_wp2_with fail
   refine HT.out.mono ?_
   rintro e w3 ⟨rfl,hR3,hu3⟩
   rw [HTS.out] at hR3
   have hua:=(Upto.refl [] w3).alloc (.cells #[.string ⟨(kAj l s).1.toArray⟩] 9)
   have HR3:=Lib.hid (hR3.ext hua)
   have HU3:=Lib.hid ((HU2.out.trans_same hu3).trans_ext hua)
   have HG:Hid ((w3.alloc (.cells #[.string ⟨(kAj l s).1.toArray⟩] 9)).heap[w3.heap.size]?=some (.cells #[.string ⟨(kAj l s).1.toArray⟩] 9 (0,0))):=Lib.hid (kAq _ _)
   have HS3:=Lib.hid (HU2.out.trans_same hu3).size
   clear hR3 hu3 hua
   go_wp2_with fail
   refine (number_callsP _ p 0 7 l (kBx (kAj l s).2) HR3.out hlen).mono ?_
   rintro e w4 ⟨rfl,hR4,hu4⟩
   have hsz:w.heap.size<w3.heap.size:=Nat.lt_of_lt_of_le (kAk HNew.out) HS3.out
   have HSZ:=Lib.hid hsz
   have hz:=hu4.at (HU3.out.at HNew.out (by have:=HpB.out;simp;omega)) (by have:=HpB.out;simp;omega)
   have HG4:=Lib.hid (hu4.at HG.out (by have:=HpB.out;simp;omega))
   obtain⟨z0,z1,z2,z3,z4,z5⟩:=kAx hz
   obtain⟨y0,y1,y2,y3,y4,y5⟩:=kDk hz
   have HZ:=Lib.hid hz
   have HR4:=Lib.hid hR4
   have HU4:=Lib.hid (HU3.out.trans_same hu4)
   clear hz hR4 hu4 hsz
   go_wp2_with fail
   have a2:=Adv.step HF.out HA1.out.lt (kRx HII.out)
   have hst:=kEz HZ.out (.int .i64 7) (.slice (some ⟨w3.heap.size,0,none⟩) 1 1) (.int .i64 0) (.int .i64 (kHq l 0 7 (kBx (kAj l s).2)).1) (.int .i64 0) (.slice none 0 0)
   obtain⟨q0,q1,q2,q3,q4,q5⟩:=kAx hst
   exact bodyPost_ret (v:=.agg #[.int .i64 7,.slice (some ⟨w3.heap.size,0,none⟩) 1 1,.int .i64 0,.int .i64 (kHq l 0 7 (kBx (kAj l s).2)).1,.int .i64 0,.slice none 0 0]) (by simp [results,Tryz.results161,go_sem,q0,q1,q2,q3,q4,q5]) rfl (kEx (P:=fun b=>New w b∧b≠w.heap.size) (Nat.le_refl _) HpB.out (HU0.out.trans_same HU4.out) HR4.out HZ.out (HA1.out.trans (a2.trans (numberP_adv HF.out a2.lt)))
    (NdV.atom (names:=[(kAj l s).1]) (SlP.block (xs:=[sV (kAj l s).1]) ⟨by have:=HSZ.out;unfold New;omega,by have:=HSZ.out;omega⟩ HG4.out 1 1 (fun j u hj=>by match j,hj with | 0,hj=>simpa [sV] using hj))) (fun b hb _=>hb))
  | false =>
   rw [hi] at he
   simp only [Bool.false_eq_true,if_false] at he
   have HII:=Lib.hid hi
   have HE:=Lib.hid he
   clear hi he
   go_enter Tryz.func161,Tryz.ntmps161
   go_wp2_with fail
   refine HN.out.mono ?_
   rintro e w1 ⟨rfl,hR1,hu1⟩
   have HI:=Lib.hid (is_calls w1 p l (kAj l s).2 [40] hR1)
   rw [HP.out] at HI
   have HR1:=Lib.hid hR1
   have HU1:=Lib.hid hu1
   clear hR1 hu1
   go_wp2_with fail
   refine HI.out.mono ?_
   rintro e w2 ⟨rfl,hu2⟩
   have HU2:=Lib.hid (HU1.out.trans_ext hu2)
   have HR2:=Lib.hid (HR1.out.ext hu2)
   have HT:=Lib.hid (kEj w2 p l (kAj l s).2 [105,115] HR2.out hlen)
   rw [HII.out] at HT
   have HTS:Hid ((kDz l [105,115] (kAj l s).2).2=(kAj l s).2):=Lib.hid (by unfold kDz;rw [HII.out];rfl)
   clear hu2
   go_wp2_with fail
   refine HT.out.mono ?_
   rintro e w3 ⟨rfl,hR3,hu3⟩
   rw [HTS.out] at hR3
   have HL0:Hid (RdAt w3 p l (kAj l s).2∧Upto [p] (w.alloc (.cells #[.int .i64 0,.slice none 0 0,.int .i64 0,.int .i64 0,.int .i64 0,.slice none 0 0] 34)) w3∧∀j,j<0→isF l (kQz.getD j []) (kAj l s).2=false):=Lib.hid ⟨hR3,HU2.out.trans_same hu3,fun j h=>by omega⟩
   clear hR3 hu3 HT HTS HR2 HU2 HI HR1 HU1 HN HII HP
   go_wp2_with fail
   go_loopw [23] (fun i wr=>∃k:Nat,k≤5∧i=.int .i64 k∧Hid (RdAt wr p l (kAj l s).2∧Upto [p] (w.alloc (.cells #[.int .i64 0,.slice none 0 0,.int .i64 0,.int .i64 0,.int .i64 0,.slice none 0 0] 34)) wr∧∀j,j<k→isF l (kQz.getD j []) (kAj l s).2=false)) (fun i _=>5-(intOf i).toNat)
   case atStart=>exact⟨0,by omega,rfl,HL0⟩
   case round =>
    obtain⟨k,hk,rfl,HI⟩:=hrel
    have hc:k=0∨k=1∨k=2∨k=3∨k=4∨k=5:=by omega
    clear HL0
    rcases hc with rfl | rfl | rfl | rfl | rfl | rfl
    ·have ix:∀w,(Instr.index 210 (.agg #[.string ⟨#[61]⟩,.string ⟨#[105,110]⟩,.string ⟨#[115,117,98]⟩,.string ⟨#[97,100,106]⟩,.string ⟨#[111,110]⟩]) (.int .i64 0)).run Tryz.prog w=.ok (.string ⟨#[61]⟩) w:=fun _=>by kernel_rfl
     have HC:=Lib.hid (kEj wr p l (kAj l s).2 [61] HI.out.1 hlen)
     cases hv:isF l [61] (kAj l s).2 with
     | true =>
      rw [hv] at HC
      have HV:Hid ((n=Nd.mk 2 [(kAj l s).1,(kAj l (kBx (kAj l s).2)).1] 0 0 0 []∧s'=(kAj l (kBx (kAj l s).2)).2)∧(kDz l [61] (kAj l s).2).2=kBx (kAj l s).2):=Lib.hid (by
       have he:=HE.out
       unfold kQz at he
       simp [kPk,hv] at he
       exact⟨⟨he.1.symm,he.2.symm⟩,by unfold kDz;rw [if_pos hv]⟩)
      have HK:=Lib.hid (kRx hv)
      clear hv
      go_wp2_with fail
      refine HC.out.mono ?_
      rintro e w4 ⟨rfl,hR4,hu4⟩
      rw [HV.out.2] at hR4
      have HR4:=Lib.hid hR4
      have HU4:=Lib.hid (HI.out.2.1.trans_same hu4)
      clear hR4 hu4
      go_wp2_with fail
      refine (kMx w4 p l (kBx (kAj l s).2) HR4.out hlen).mono ?_
      rintro e w5 ⟨rfl,hR5,hu5⟩
      have hua:=(Upto.refl [] w5).alloc (.cells #[.string ⟨(kAj l s).1.toArray⟩,.string ⟨(kAj l (kBx (kAj l s).2)).1.toArray⟩] 9)
      have hz:=hua.at (hu5.at (HU4.out.at HNew.out (by have:=HpB.out;simp;omega)) (by have:=HpB.out;simp;omega)) (by simp)
      have HG:Hid ((w5.alloc (.cells #[.string ⟨(kAj l s).1.toArray⟩,.string ⟨(kAj l (kBx (kAj l s).2)).1.toArray⟩] 9)).heap[w5.heap.size]?=some (.cells #[.string ⟨(kAj l s).1.toArray⟩,.string ⟨(kAj l (kBx (kAj l s).2)).1.toArray⟩] 9 (0,0))):=Lib.hid (kAq _ _)
      have HS5:=Lib.hid (HU4.out.trans_same hu5).size
      obtain⟨z0,z1,z2,z3,z4,z5⟩:=kAx hz
      obtain⟨y0,y1,y2,y3,y4,y5⟩:=kDk hz
      have HZ:=Lib.hid hz
      have HR5:=Lib.hid (hR5.ext hua)
      have HU5:=Lib.hid ((HU4.out.trans_same hu5).trans_ext hua)
      clear hz hR5 hu5 hua
      go_wp2_with fail
      have h8:=kAk HNew.out
      have h9:=HS5.out
      have a2:=Adv.step HF.out HA1.out.lt HK.out
      obtain⟨⟨rfl,rfl⟩,-⟩:=HV.out
      have hst:=kEz HZ.out (.int .i64 2) (.slice (some ⟨w5.heap.size,0,none⟩) 2 2) (.int .i64 0) (.int .i64 0) (.int .i64 0) (.slice none 0 0)
      obtain⟨q0,q1,q2,q3,q4,q5⟩:=kAx hst
      exact bodyPost_ret (v:=.agg #[.int .i64 2,.slice (some ⟨w5.heap.size,0,none⟩) 2 2,.int .i64 0,.int .i64 0,.int .i64 0,.slice none 0 0]) (by simp [results,Tryz.results161,go_sem,q0,q1,q2,q3,q4,q5]) rfl (kEx (P:=fun b=>New w b∧b≠w.heap.size) (Nat.le_refl _) HpB.out (HU0.out.trans_same HU5.out) HR5.out HZ.out (HA1.out.trans (a2.trans (kEq HF.out a2.lt).1))
       (NdV.atom (names:=[(kAj l s).1,(kAj l (kBx (kAj l s).2)).1]) (SlP.block (xs:=[sV (kAj l s).1,sV (kAj l (kBx (kAj l s).2)).1]) ⟨by unfold New;omega,by omega⟩ HG.out 2 2 (fun j u hj=>by
        match j,hj with
        | 0,hj=>simpa [sV] using hj
        | 1,hj=>simpa [sV] using hj))) (fun b hb _=>hb))
     | false =>
      rw [hv] at HC
      have HV:Hid ((kDz l [61] (kAj l s).2).2=(kAj l s).2∧isF l [61] (kAj l s).2=false):=Lib.hid ⟨by unfold kDz;rw [hv];rfl,hv⟩
      clear hv
      go_wp2_with fail
      refine HC.out.mono ?_
      rintro e w4 ⟨rfl,hR4,hu4⟩
      have HS:=Lib.hid hR4
      have HU:=Lib.hid (HI.out.2.1.trans_same hu4)
      clear hR4 hu4
      go_wp2_with fail
      go_roundw
      case rel=>exact⟨1,by omega,by go_num,Lib.hid ⟨by have:=HS.out;rw [HV.out.1] at this;exact this,HU.out,fun j hj=>by
       by_cases hjk:j<0
       ·exact HI.out.2.2 j hjk
       ·obtain rfl:j=0:=by omega
        exact HV.out.2⟩⟩
      case measure=>simp [intOf]
    ·have ix:∀w,(Instr.index 210 (.agg #[.string ⟨#[61]⟩,.string ⟨#[105,110]⟩,.string ⟨#[115,117,98]⟩,.string ⟨#[97,100,106]⟩,.string ⟨#[111,110]⟩]) (.int .i64 1)).run Tryz.prog w=.ok (.string ⟨#[105,110]⟩) w:=fun _=>by kernel_rfl
     have HC:=Lib.hid (kEj wr p l (kAj l s).2 [105,110] HI.out.1 hlen)
     cases hv:isF l [105,110] (kAj l s).2 with
     | true =>
      rw [hv] at HC
      have HV:Hid ((n=Nd.mk 3 [(kAj l s).1,(kAj l (kBx (kAj l s).2)).1] 0 0 0 []∧s'=(kAj l (kBx (kAj l s).2)).2)∧(kDz l [105,110] (kAj l s).2).2=kBx (kAj l s).2):=Lib.hid (by
       have he:=HE.out
       have f0:isF l [61] (kAj l s).2=false:=HI.out.2.2 0 (by omega)
       unfold kQz at he
       simp [kPk,f0,hv] at he
       exact⟨⟨he.1.symm,he.2.symm⟩,by unfold kDz;rw [if_pos hv]⟩)
      have HK:=Lib.hid (kRx hv)
      clear hv
      go_wp2_with fail
      refine HC.out.mono ?_
      rintro e w4 ⟨rfl,hR4,hu4⟩
      rw [HV.out.2] at hR4
      have HR4:=Lib.hid hR4
      have HU4:=Lib.hid (HI.out.2.1.trans_same hu4)
      clear hR4 hu4
      go_wp2_with fail
      refine (kMx w4 p l (kBx (kAj l s).2) HR4.out hlen).mono ?_
      rintro e w5 ⟨rfl,hR5,hu5⟩
      have hua:=(Upto.refl [] w5).alloc (.cells #[.string ⟨(kAj l s).1.toArray⟩,.string ⟨(kAj l (kBx (kAj l s).2)).1.toArray⟩] 9)
      have hz:=hua.at (hu5.at (HU4.out.at HNew.out (by have:=HpB.out;simp;omega)) (by have:=HpB.out;simp;omega)) (by simp)
      have HG:Hid ((w5.alloc (.cells #[.string ⟨(kAj l s).1.toArray⟩,.string ⟨(kAj l (kBx (kAj l s).2)).1.toArray⟩] 9)).heap[w5.heap.size]?=some (.cells #[.string ⟨(kAj l s).1.toArray⟩,.string ⟨(kAj l (kBx (kAj l s).2)).1.toArray⟩] 9 (0,0))):=Lib.hid (kAq _ _)
      have HS5:=Lib.hid (HU4.out.trans_same hu5).size
      obtain⟨z0,z1,z2,z3,z4,z5⟩:=kAx hz
      obtain⟨y0,y1,y2,y3,y4,y5⟩:=kDk hz
      have HZ:=Lib.hid hz
      have HR5:=Lib.hid (hR5.ext hua)
      have HU5:=Lib.hid ((HU4.out.trans_same hu5).trans_ext hua)
      clear hz hR5 hu5 hua
      go_wp2_with fail
      have h8:=kAk HNew.out
      have h9:=HS5.out
      have a2:=Adv.step HF.out HA1.out.lt HK.out
      obtain⟨⟨rfl,rfl⟩,-⟩:=HV.out
      have hst:=kEz HZ.out (.int .i64 3) (.slice (some ⟨w5.heap.size,0,none⟩) 2 2) (.int .i64 0) (.int .i64 0) (.int .i64 0) (.slice none 0 0)
      obtain⟨q0,q1,q2,q3,q4,q5⟩:=kAx hst
      exact bodyPost_ret (v:=.agg #[.int .i64 3,.slice (some ⟨w5.heap.size,0,none⟩) 2 2,.int .i64 0,.int .i64 0,.int .i64 0,.slice none 0 0]) (by simp [results,Tryz.results161,go_sem,q0,q1,q2,q3,q4,q5]) rfl (kEx (P:=fun b=>New w b∧b≠w.heap.size) (Nat.le_refl _) HpB.out (HU0.out.trans_same HU5.out) HR5.out HZ.out (HA1.out.trans (a2.trans (kEq HF.out a2.lt).1))
       (NdV.atom (names:=[(kAj l s).1,(kAj l (kBx (kAj l s).2)).1]) (SlP.block (xs:=[sV (kAj l s).1,sV (kAj l (kBx (kAj l s).2)).1]) ⟨by unfold New;omega,by omega⟩ HG.out 2 2 (fun j u hj=>by
        match j,hj with
        | 0,hj=>simpa [sV] using hj
        | 1,hj=>simpa [sV] using hj))) (fun b hb _=>hb))
     | false =>
      rw [hv] at HC
      have HV:Hid ((kDz l [105,110] (kAj l s).2).2=(kAj l s).2∧isF l [105,110] (kAj l s).2=false):=Lib.hid ⟨by unfold kDz;rw [hv];rfl,hv⟩
      clear hv
      go_wp2_with fail
      refine HC.out.mono ?_
      rintro e w4 ⟨rfl,hR4,hu4⟩
      have HS:=Lib.hid hR4
      have HU:=Lib.hid (HI.out.2.1.trans_same hu4)
      clear hR4 hu4
      go_wp2_with fail
      go_roundw
      case rel=>exact⟨2,by omega,by go_num,Lib.hid ⟨by have:=HS.out;rw [HV.out.1] at this;exact this,HU.out,fun j hj=>by
       by_cases hjk:j<1
       ·exact HI.out.2.2 j hjk
       ·obtain rfl:j=1:=by omega
        exact HV.out.2⟩⟩
      case measure=>simp [intOf]
    ·have ix:∀w,(Instr.index 210 (.agg #[.string ⟨#[61]⟩,.string ⟨#[105,110]⟩,.string ⟨#[115,117,98]⟩,.string ⟨#[97,100,106]⟩,.string ⟨#[111,110]⟩]) (.int .i64 2)).run Tryz.prog w=.ok (.string ⟨#[115,117,98]⟩) w:=fun _=>by kernel_rfl
     have HC:=Lib.hid (kEj wr p l (kAj l s).2 [115,117,98] HI.out.1 hlen)
     cases hv:isF l [115,117,98] (kAj l s).2 with
     | true =>
      rw [hv] at HC
      have HV:Hid ((n=Nd.mk 4 [(kAj l s).1,(kAj l (kBx (kAj l s).2)).1] 0 0 0 []∧s'=(kAj l (kBx (kAj l s).2)).2)∧(kDz l [115,117,98] (kAj l s).2).2=kBx (kAj l s).2):=Lib.hid (by
       have he:=HE.out
       have f0:isF l [61] (kAj l s).2=false:=HI.out.2.2 0 (by omega)
       have f1:isF l [105,110] (kAj l s).2=false:=HI.out.2.2 1 (by omega)
       unfold kQz at he
       simp [kPk,f0,f1,hv] at he
       exact⟨⟨he.1.symm,he.2.symm⟩,by unfold kDz;rw [if_pos hv]⟩)
      have HK:=Lib.hid (kRx hv)
      clear hv
      go_wp2_with fail
      refine HC.out.mono ?_
      rintro e w4 ⟨rfl,hR4,hu4⟩
      rw [HV.out.2] at hR4
      have HR4:=Lib.hid hR4
      have HU4:=Lib.hid (HI.out.2.1.trans_same hu4)
      clear hR4 hu4
      go_wp2_with fail
      refine (kMx w4 p l (kBx (kAj l s).2) HR4.out hlen).mono ?_
      rintro e w5 ⟨rfl,hR5,hu5⟩
      have hua:=(Upto.refl [] w5).alloc (.cells #[.string ⟨(kAj l s).1.toArray⟩,.string ⟨(kAj l (kBx (kAj l s).2)).1.toArray⟩] 9)
      have hz:=hua.at (hu5.at (HU4.out.at HNew.out (by have:=HpB.out;simp;omega)) (by have:=HpB.out;simp;omega)) (by simp)
      have HG:Hid ((w5.alloc (.cells #[.string ⟨(kAj l s).1.toArray⟩,.string ⟨(kAj l (kBx (kAj l s).2)).1.toArray⟩] 9)).heap[w5.heap.size]?=some (.cells #[.string ⟨(kAj l s).1.toArray⟩,.string ⟨(kAj l (kBx (kAj l s).2)).1.toArray⟩] 9 (0,0))):=Lib.hid (kAq _ _)
      have HS5:=Lib.hid (HU4.out.trans_same hu5).size
      obtain⟨z0,z1,z2,z3,z4,z5⟩:=kAx hz
      obtain⟨y0,y1,y2,y3,y4,y5⟩:=kDk hz
      have HZ:=Lib.hid hz
      have HR5:=Lib.hid (hR5.ext hua)
      have HU5:=Lib.hid ((HU4.out.trans_same hu5).trans_ext hua)
      clear hz hR5 hu5 hua
      go_wp2_with fail
      have h8:=kAk HNew.out
      have h9:=HS5.out
      have a2:=Adv.step HF.out HA1.out.lt HK.out
      obtain⟨⟨rfl,rfl⟩,-⟩:=HV.out
      have hst:=kEz HZ.out (.int .i64 4) (.slice (some ⟨w5.heap.size,0,none⟩) 2 2) (.int .i64 0) (.int .i64 0) (.int .i64 0) (.slice none 0 0)
      obtain⟨q0,q1,q2,q3,q4,q5⟩:=kAx hst
      exact bodyPost_ret (v:=.agg #[.int .i64 4,.slice (some ⟨w5.heap.size,0,none⟩) 2 2,.int .i64 0,.int .i64 0,.int .i64 0,.slice none 0 0]) (by simp [results,Tryz.results161,go_sem,q0,q1,q2,q3,q4,q5]) rfl (kEx (P:=fun b=>New w b∧b≠w.heap.size) (Nat.le_refl _) HpB.out (HU0.out.trans_same HU5.out) HR5.out HZ.out (HA1.out.trans (a2.trans (kEq HF.out a2.lt).1))
       (NdV.atom (names:=[(kAj l s).1,(kAj l (kBx (kAj l s).2)).1]) (SlP.block (xs:=[sV (kAj l s).1,sV (kAj l (kBx (kAj l s).2)).1]) ⟨by unfold New;omega,by omega⟩ HG.out 2 2 (fun j u hj=>by
        match j,hj with
        | 0,hj=>simpa [sV] using hj
        | 1,hj=>simpa [sV] using hj))) (fun b hb _=>hb))
     | false =>
      rw [hv] at HC
      have HV:Hid ((kDz l [115,117,98] (kAj l s).2).2=(kAj l s).2∧isF l [115,117,98] (kAj l s).2=false):=Lib.hid ⟨by unfold kDz;rw [hv];rfl,hv⟩
      clear hv
      go_wp2_with fail
      refine HC.out.mono ?_
      rintro e w4 ⟨rfl,hR4,hu4⟩
      have HS:=Lib.hid hR4
      have HU:=Lib.hid (HI.out.2.1.trans_same hu4)
      clear hR4 hu4
      go_wp2_with fail
      go_roundw
      case rel=>exact⟨3,by omega,by go_num,Lib.hid ⟨by have:=HS.out;rw [HV.out.1] at this;exact this,HU.out,fun j hj=>by
       by_cases hjk:j<2
       ·exact HI.out.2.2 j hjk
       ·obtain rfl:j=2:=by omega
        exact HV.out.2⟩⟩
      case measure=>simp [intOf]
    ·have ix:∀w,(Instr.index 210 (.agg #[.string ⟨#[61]⟩,.string ⟨#[105,110]⟩,.string ⟨#[115,117,98]⟩,.string ⟨#[97,100,106]⟩,.string ⟨#[111,110]⟩]) (.int .i64 3)).run Tryz.prog w=.ok (.string ⟨#[97,100,106]⟩) w:=fun _=>by kernel_rfl
     have HC:=Lib.hid (kEj wr p l (kAj l s).2 [97,100,106] HI.out.1 hlen)
     cases hv:isF l [97,100,106] (kAj l s).2 with
     | true =>
      rw [hv] at HC
      have HV:Hid ((n=Nd.mk 5 [(kAj l s).1,(kAj l (kBx (kAj l s).2)).1] 0 0 0 []∧s'=(kAj l (kBx (kAj l s).2)).2)∧(kDz l [97,100,106] (kAj l s).2).2=kBx (kAj l s).2):=Lib.hid (by
       have he:=HE.out
       have f0:isF l [61] (kAj l s).2=false:=HI.out.2.2 0 (by omega)
       have f1:isF l [105,110] (kAj l s).2=false:=HI.out.2.2 1 (by omega)
       have f2:isF l [115,117,98] (kAj l s).2=false:=HI.out.2.2 2 (by omega)
       unfold kQz at he
       simp [kPk,f0,f1,f2,hv] at he
       exact⟨⟨he.1.symm,he.2.symm⟩,by unfold kDz;rw [if_pos hv]⟩)
      have HK:=Lib.hid (kRx hv)
      clear hv
      go_wp2_with fail
      refine HC.out.mono ?_
      rintro e w4 ⟨rfl,hR4,hu4⟩
      rw [HV.out.2] at hR4
      have HR4:=Lib.hid hR4
      have HU4:=Lib.hid (HI.out.2.1.trans_same hu4)
      clear hR4 hu4
      go_wp2_with fail
      refine (kMx w4 p l (kBx (kAj l s).2) HR4.out hlen).mono ?_
      rintro e w5 ⟨rfl,hR5,hu5⟩
      have hua:=(Upto.refl [] w5).alloc (.cells #[.string ⟨(kAj l s).1.toArray⟩,.string ⟨(kAj l (kBx (kAj l s).2)).1.toArray⟩] 9)
      have hz:=hua.at (hu5.at (HU4.out.at HNew.out (by have:=HpB.out;simp;omega)) (by have:=HpB.out;simp;omega)) (by simp)
      have HG:Hid ((w5.alloc (.cells #[.string ⟨(kAj l s).1.toArray⟩,.string ⟨(kAj l (kBx (kAj l s).2)).1.toArray⟩] 9)).heap[w5.heap.size]?=some (.cells #[.string ⟨(kAj l s).1.toArray⟩,.string ⟨(kAj l (kBx (kAj l s).2)).1.toArray⟩] 9 (0,0))):=Lib.hid (kAq _ _)
      have HS5:=Lib.hid (HU4.out.trans_same hu5).size
      obtain⟨z0,z1,z2,z3,z4,z5⟩:=kAx hz
      obtain⟨y0,y1,y2,y3,y4,y5⟩:=kDk hz
      have HZ:=Lib.hid hz
      have HR5:=Lib.hid (hR5.ext hua)
      have HU5:=Lib.hid ((HU4.out.trans_same hu5).trans_ext hua)
      clear hz hR5 hu5 hua
      go_wp2_with fail
      have h8:=kAk HNew.out
      have h9:=HS5.out
      have a2:=Adv.step HF.out HA1.out.lt HK.out
      obtain⟨⟨rfl,rfl⟩,-⟩:=HV.out
      have hst:=kEz HZ.out (.int .i64 5) (.slice (some ⟨w5.heap.size,0,none⟩) 2 2) (.int .i64 0) (.int .i64 0) (.int .i64 0) (.slice none 0 0)
      obtain⟨q0,q1,q2,q3,q4,q5⟩:=kAx hst
      exact bodyPost_ret (v:=.agg #[.int .i64 5,.slice (some ⟨w5.heap.size,0,none⟩) 2 2,.int .i64 0,.int .i64 0,.int .i64 0,.slice none 0 0]) (by simp [results,Tryz.results161,go_sem,q0,q1,q2,q3,q4,q5]) rfl (kEx (P:=fun b=>New w b∧b≠w.heap.size) (Nat.le_refl _) HpB.out (HU0.out.trans_same HU5.out) HR5.out HZ.out (HA1.out.trans (a2.trans (kEq HF.out a2.lt).1))
       (NdV.atom (names:=[(kAj l s).1,(kAj l (kBx (kAj l s).2)).1]) (SlP.block (xs:=[sV (kAj l s).1,sV (kAj l (kBx (kAj l s).2)).1]) ⟨by unfold New;omega,by omega⟩ HG.out 2 2 (fun j u hj=>by
        match j,hj with
        | 0,hj=>simpa [sV] using hj
        | 1,hj=>simpa [sV] using hj))) (fun b hb _=>hb))
     | false =>
      rw [hv] at HC
      have HV:Hid ((kDz l [97,100,106] (kAj l s).2).2=(kAj l s).2∧isF l [97,100,106] (kAj l s).2=false):=Lib.hid ⟨by unfold kDz;rw [hv];rfl,hv⟩
      clear hv
      go_wp2_with fail
      refine HC.out.mono ?_
      rintro e w4 ⟨rfl,hR4,hu4⟩
      have HS:=Lib.hid hR4
      have HU:=Lib.hid (HI.out.2.1.trans_same hu4)
      clear hR4 hu4
      go_wp2_with fail
      go_roundw
      case rel=>exact⟨4,by omega,by go_num,Lib.hid ⟨by have:=HS.out;rw [HV.out.1] at this;exact this,HU.out,fun j hj=>by
       by_cases hjk:j<3
       ·exact HI.out.2.2 j hjk
       ·obtain rfl:j=3:=by omega
        exact HV.out.2⟩⟩
      case measure=>simp [intOf]
    ·have ix:∀w,(Instr.index 210 (.agg #[.string ⟨#[61]⟩,.string ⟨#[105,110]⟩,.string ⟨#[115,117,98]⟩,.string ⟨#[97,100,106]⟩,.string ⟨#[111,110]⟩]) (.int .i64 4)).run Tryz.prog w=.ok (.string ⟨#[111,110]⟩) w:=fun _=>by kernel_rfl
     have HC:=Lib.hid (kEj wr p l (kAj l s).2 [111,110] HI.out.1 hlen)
     cases hv:isF l [111,110] (kAj l s).2 with
     | true =>
      rw [hv] at HC
      have HV:Hid ((n=Nd.mk 6 [(kAj l s).1,(kAj l (kBx (kAj l s).2)).1] 0 0 0 []∧s'=(kAj l (kBx (kAj l s).2)).2)∧(kDz l [111,110] (kAj l s).2).2=kBx (kAj l s).2):=Lib.hid (by
       have he:=HE.out
       have f0:isF l [61] (kAj l s).2=false:=HI.out.2.2 0 (by omega)
       have f1:isF l [105,110] (kAj l s).2=false:=HI.out.2.2 1 (by omega)
       have f2:isF l [115,117,98] (kAj l s).2=false:=HI.out.2.2 2 (by omega)
       have f3:isF l [97,100,106] (kAj l s).2=false:=HI.out.2.2 3 (by omega)
       unfold kQz at he
       simp [kPk,f0,f1,f2,f3,hv] at he
       exact⟨⟨he.1.symm,he.2.symm⟩,by unfold kDz;rw [if_pos hv]⟩)
      have HK:=Lib.hid (kRx hv)
      clear hv
      go_wp2_with fail
      refine HC.out.mono ?_
      rintro e w4 ⟨rfl,hR4,hu4⟩
      rw [HV.out.2] at hR4
      have HR4:=Lib.hid hR4
      have HU4:=Lib.hid (HI.out.2.1.trans_same hu4)
      clear hR4 hu4
      go_wp2_with fail
      refine (kMx w4 p l (kBx (kAj l s).2) HR4.out hlen).mono ?_
      rintro e w5 ⟨rfl,hR5,hu5⟩
      have hua:=(Upto.refl [] w5).alloc (.cells #[.string ⟨(kAj l s).1.toArray⟩,.string ⟨(kAj l (kBx (kAj l s).2)).1.toArray⟩] 9)
      have hz:=hua.at (hu5.at (HU4.out.at HNew.out (by have:=HpB.out;simp;omega)) (by have:=HpB.out;simp;omega)) (by simp)
      have HG:Hid ((w5.alloc (.cells #[.string ⟨(kAj l s).1.toArray⟩,.string ⟨(kAj l (kBx (kAj l s).2)).1.toArray⟩] 9)).heap[w5.heap.size]?=some (.cells #[.string ⟨(kAj l s).1.toArray⟩,.string ⟨(kAj l (kBx (kAj l s).2)).1.toArray⟩] 9 (0,0))):=Lib.hid (kAq _ _)
      have HS5:=Lib.hid (HU4.out.trans_same hu5).size
      obtain⟨z0,z1,z2,z3,z4,z5⟩:=kAx hz
      obtain⟨y0,y1,y2,y3,y4,y5⟩:=kDk hz
      have HZ:=Lib.hid hz
      have HR5:=Lib.hid (hR5.ext hua)
      have HU5:=Lib.hid ((HU4.out.trans_same hu5).trans_ext hua)
      clear hz hR5 hu5 hua
      go_wp2_with fail
      have h8:=kAk HNew.out
      have h9:=HS5.out
      have a2:=Adv.step HF.out HA1.out.lt HK.out
      obtain⟨⟨rfl,rfl⟩,-⟩:=HV.out
      have hst:=kEz HZ.out (.int .i64 6) (.slice (some ⟨w5.heap.size,0,none⟩) 2 2) (.int .i64 0) (.int .i64 0) (.int .i64 0) (.slice none 0 0)
      obtain⟨q0,q1,q2,q3,q4,q5⟩:=kAx hst
      exact bodyPost_ret (v:=.agg #[.int .i64 6,.slice (some ⟨w5.heap.size,0,none⟩) 2 2,.int .i64 0,.int .i64 0,.int .i64 0,.slice none 0 0]) (by simp [results,Tryz.results161,go_sem,q0,q1,q2,q3,q4,q5]) rfl (kEx (P:=fun b=>New w b∧b≠w.heap.size) (Nat.le_refl _) HpB.out (HU0.out.trans_same HU5.out) HR5.out HZ.out (HA1.out.trans (a2.trans (kEq HF.out a2.lt).1))
       (NdV.atom (names:=[(kAj l s).1,(kAj l (kBx (kAj l s).2)).1]) (SlP.block (xs:=[sV (kAj l s).1,sV (kAj l (kBx (kAj l s).2)).1]) ⟨by unfold New;omega,by omega⟩ HG.out 2 2 (fun j u hj=>by
        match j,hj with
        | 0,hj=>simpa [sV] using hj
        | 1,hj=>simpa [sV] using hj))) (fun b hb _=>hb))
     | false =>
      rw [hv] at HC
      have HV:Hid ((kDz l [111,110] (kAj l s).2).2=(kAj l s).2∧isF l [111,110] (kAj l s).2=false):=Lib.hid ⟨by unfold kDz;rw [hv];rfl,hv⟩
      clear hv
      go_wp2_with fail
      refine HC.out.mono ?_
      rintro e w4 ⟨rfl,hR4,hu4⟩
      have HS:=Lib.hid hR4
      have HU:=Lib.hid (HI.out.2.1.trans_same hu4)
      clear hR4 hu4
      go_wp2_with fail
      go_roundw
      case rel=>exact⟨5,by omega,by go_num,Lib.hid ⟨by have:=HS.out;rw [HV.out.1] at this;exact this,HU.out,fun j hj=>by
       by_cases hjk:j<4
       ·exact HI.out.2.2 j hjk
       ·obtain rfl:j=4:=by omega
        exact HV.out.2⟩⟩
      case measure=>simp [intOf]
    ·have HV:Hid (n=.zero∧s'=kCk 3 (kAj l s).2):=Lib.hid (by
      have he:=HE.out
      have f0:isF l [61] (kAj l s).2=false:=HI.out.2.2 0 (by omega)
      have f1:isF l [105,110] (kAj l s).2=false:=HI.out.2.2 1 (by omega)
      have f2:isF l [115,117,98] (kAj l s).2=false:=HI.out.2.2 2 (by omega)
      have f3:isF l [97,100,106] (kAj l s).2=false:=HI.out.2.2 3 (by omega)
      have f4:isF l [111,110] (kAj l s).2=false:=HI.out.2.2 4 (by omega)
      unfold kQz at he
      simp [kPk,f0,f1,f2,f3,f4] at he
      exact⟨he.1.symm,he.2.symm⟩)
     go_wp2_with fail
     refine (kLj wr p 3 l (kAj l s).2 HI.out.1).mono ?_
     rintro e w5 ⟨rfl,hR5,hu5⟩
     have hz:=hu5.at (HI.out.2.1.at HNew.out (by have:=HpB.out;simp;omega)) (by have:=HpB.out;simp;omega)
     obtain⟨z0,z1,z2,z3,z4,z5⟩:=kAx hz
     obtain⟨y0,y1,y2,y3,y4,y5⟩:=kDk hz
     have HZ:=Lib.hid hz
     have HR5:=Lib.hid hR5
     have HU5:=Lib.hid (HI.out.2.1.trans_same hu5)
     clear hz hR5 hu5
     go_wp2_with fail
     obtain⟨rfl,rfl⟩:=HV.out
     have hst:=kEz HZ.out (.int .i64 0) (.slice none 0 0) (.int .i64 0) (.int .i64 0) (.int .i64 0) (.slice none 0 0)
     obtain⟨q0,q1,q2,q3,q4,q5⟩:=kAx hst
     exact bodyPost_ret (v:=.agg #[.int .i64 0,.slice none 0 0,.int .i64 0,.int .i64 0,.int .i64 0,.slice none 0 0]) (by simp [results,Tryz.results161,go_sem,q0,q1,q2,q3,q4,q5]) rfl (kEx (P:=fun _=>False) (Nat.le_refl _) HpB.out (HU0.out.trans_same HU5.out) HR5.out HZ.out (HA1.out.trans (Adv.wrong HA1.out.lt 3)) (NdV.zero _ _) (fun b hb _=>hb.elim))
theorem kRq (w:World) (p:Nat) (l:List Tok) (s s':PS) (n:Nd) (k:FuncId) (hx:Cx w p l) (h:RdAt w p l s) (tk tv tl tc:Nat) (tx:List UInt8) (HT:Hid (tkAt l s=⟨tk,tx,tv,tl,tc⟩)) (hk34:tk=3∨tk=4) (h0:s.er=0) (HL:Hid (∀(w:World) (b:Nat),MapL Tryz.prog 9 w b kOw→(Instr.lookup 193 (.map (some b)) (.string ⟨tx.toArray⟩) true).run Tryz.prog w=.ok (.tuple #[.agg #[.func (.func k) #[] #[]],.bool true]) w)) (hk:∀args w,(callFunc k args).run Tryz.prog w=.ok (.enter k args) w) (HC:Hid (∀W4,Upto [p] w W4→Cx W4 p l→RdAt W4 p l s→Calls Tryz.prog k #[.pointer (some ⟨p,0,none⟩)] W4 (kMk W4 p l s n s'))) :
  Calls Tryz.prog 147 #[.pointer (some ⟨p,0,none⟩)] w (kMk w p l s n s'):=by
 have k0:((s.er:Int)==0)=true:=by simp [h0]
 clear h0
 rcases hk34 with h3 | h4
 ·subst h3
  have HpB:Hid (p<w.heap.size):=Lib.hid h.lt
  have hu0:Upto [] w (w.alloc (.cells #[.int .i64 0,.slice none 0 0,.int .i64 0,.int .i64 0,.int .i64 0,.slice none 0 0] 34)):=(Upto.refl [] w).alloc _
  have HR0:=Lib.hid (h.ext hu0)
  have HX0:=Lib.hid (hx.ext hu0)
  have HU0:Hid (Upto [p] w (w.alloc (.cells #[.int .i64 0,.slice none 0 0,.int .i64 0,.int .i64 0,.int .i64 0,.slice none 0 0] 34))):=Lib.hid (hu0.mono (by simp))
  have HNew:Hid ((w.alloc (.cells #[.int .i64 0,.slice none 0 0,.int .i64 0,.int .i64 0,.int .i64 0,.slice none 0 0] 34)).heap[w.heap.size]?=some (.cells #[.int .i64 0,.slice none 0 0,.int .i64 0,.int .i64 0,.int .i64 0,.slice none 0 0] 34 (0,0))):=Lib.hid (kAq _ _)
  have HN:=Lib.hid (kHw _ p l s HR0.out)
  clear h hu0
  go_enter Tryz.func147,Tryz.ntmps147
  go_wp2_with fail
  refine HN.out.mono ?_
  rintro e w1 ⟨rfl,hu1⟩
  rw [HT.out]
  unfold tkA
  have HU1:=Lib.hid (HU0.out.trans_ext hu1)
  have HU2:Hid (Upto [p] w (w1.alloc (.cells #[.int .i64 3,.string ⟨tx.toArray⟩,.int .i64 tv,.int .i64 tl,.int .i64 tc] 83))):=Lib.hid ((HU0.out.trans_ext hu1).alloc _)
  have HZ2:Hid ((w1.alloc (.cells #[.int .i64 3,.string ⟨tx.toArray⟩,.int .i64 tv,.int .i64 tl,.int .i64 tc] 83)).heap[w.heap.size]?=some (.cells #[.int .i64 0,.slice none 0 0,.int .i64 0,.int .i64 0,.int .i64 0,.slice none 0 0] 34 (0,0))):=Lib.hid (kCx (hu1.at HNew.out (by simp)) _)
  have HTB:Hid ((w1.alloc (.cells #[.int .i64 3,.string ⟨tx.toArray⟩,.int .i64 tv,.int .i64 tl,.int .i64 tc] 83)).heap[w1.heap.size]?=some (.cells #[.int .i64 3,.string ⟨tx.toArray⟩,.int .i64 tv,.int .i64 tl,.int .i64 tc] 83 (0,0))):=Lib.hid (kAq _ _)
  have HR2:Hid (RdAt (w1.alloc (.cells #[.int .i64 3,.string ⟨tx.toArray⟩,.int .i64 tv,.int .i64 tl,.int .i64 tc] 83)) p l s):=Lib.hid ((HR0.out.ext hu1).ext ((Upto.refl [] w1).alloc _))
  have HX2:Hid (Cx (w1.alloc (.cells #[.int .i64 3,.string ⟨tx.toArray⟩,.int .i64 tv,.int .i64 tl,.int .i64 tc] 83)) p l):=Lib.hid (HX0.out.upto ((hu1.mono (by simp)).alloc _))
  have HSZ:Hid (w.heap.size<(w1.alloc (.cells #[.int .i64 3,.string ⟨tx.toArray⟩,.int .i64 tv,.int .i64 tl,.int .i64 tc] 83)).heap.size):=Lib.hid (kAk HZ2.out)
  clear hu1 HN
  have k3:((3:Int)==3)=true:=rfl
  have x0:=kAz HTB.out 0
  simp only [List.getElem?_toArray,List.getElem?_cons_zero] at x0
  have xa:=kAz ((Upto.refl [] (w1.alloc (.cells #[.int .i64 3,.string ⟨tx.toArray⟩,.int .i64 tv,.int .i64 tl,.int .i64 tc] 83))).drew.at HTB.out (by simp)) 1
  have xb:=kAz (((Upto.refl [] (w1.alloc (.cells #[.int .i64 3,.string ⟨tx.toArray⟩,.int .i64 tv,.int .i64 tl,.int .i64 tc] 83))).alloc (.cells #[.nilFunc] 191)).drew.at HTB.out (by simp)) 1
  simp only [List.getElem?_toArray,List.getElem?_cons_zero,List.getElem?_cons_succ] at xa xb
  go_wp2_with fail
  go_region_with (
   first
   | (refine (kLw (w1.alloc (.cells #[.int .i64 3,.string ⟨tx.toArray⟩,.int .i64 tv,.int .i64 tl,.int .i64 tc] 83)).drew).mono ?_
      rintro e w3 ⟨b,rfl,hm3,hu3⟩
      have HU3:Hid (Upto [] (w1.alloc (.cells #[.int .i64 3,.string ⟨tx.toArray⟩,.int .i64 tv,.int .i64 tl,.int .i64 tc] 83)) w3):=Lib.hid ((Upto.refl [] _).drew.trans_ext hu3)
      have l3:=HL.out w3 b hm3
      have l4:=HL.out (w3.alloc (.cells #[.nilFunc] 191)) b (hm3.upto ((Upto.refl [] w3).alloc _) (by simp))
      have xc:=kAz (HU3.out.at HTB.out (by simp)) 1
      have xd:=kAz (((Upto.refl [] w3).alloc (.cells #[.nilFunc] 191)).at (HU3.out.at HTB.out (by simp)) (by simp)) 1
      simp only [List.getElem?_toArray,List.getElem?_cons_zero,List.getElem?_cons_succ] at xc xd
      clear hm3 hu3)
   | (refine (kLw ((w1.alloc (.cells #[.int .i64 3,.string ⟨tx.toArray⟩,.int .i64 tv,.int .i64 tl,.int .i64 tc] 83)).alloc (.cells #[.nilFunc] 191)).drew).mono ?_
      rintro e w3 ⟨b,rfl,hm3,hu3⟩
      have HU3:Hid (Upto [] (w1.alloc (.cells #[.int .i64 3,.string ⟨tx.toArray⟩,.int .i64 tv,.int .i64 tl,.int .i64 tc] 83)) w3):=Lib.hid (((Upto.refl [] _).alloc _).drew.trans_ext hu3)
      have l3:=HL.out w3 b hm3
      have xc:=kAz (HU3.out.at HTB.out (by simp)) 1
      simp only [List.getElem?_toArray,List.getElem?_cons_zero,List.getElem?_cons_succ] at xc
      have hn2:=hu3.at ((Upto.refl [] ((w1.alloc (.cells #[.int .i64 3,.string ⟨tx.toArray⟩,.int .i64 tv,.int .i64 tl,.int .i64 tc] 83)).alloc (.cells #[.nilFunc] 191))).drew.at (kAq (w1.alloc (.cells #[.int .i64 3,.string ⟨tx.toArray⟩,.int .i64 tv,.int .i64 tl,.int .i64 tc] 83)) (.cells #[.nilFunc] 191)) (by simp)) (by simp)
      (try simp only [World.size_alloc] at hn2)
      have z0:=kAz hn2 0
      have y0:=kDx hn2 0
      simp only [List.getElem?_toArray,List.getElem?_cons_zero] at z0
      have HN2:=Lib.hid hn2
      clear hm3 hu3 hn2))
  all_goals (
   first
   | (obtain⟨W4,Bp,hW4,hBp,hn4,hu4⟩:∃W4 Bp,W4=w3.alloc (.cells #[.func (.func k) #[] #[]] 191)∧Bp=w3.heap.size∧W4.heap[Bp]?=some (.cells #[.func (.func k) #[] #[]] 191 (0,0))∧Upto [] (w1.alloc (.cells #[.int .i64 3,.string ⟨tx.toArray⟩,.int .i64 tv,.int .i64 tl,.int .i64 tc] 83)) W4 :=
      ⟨_,_,rfl,rfl,kAq _ _,HU3.out.alloc _⟩
      rw [←hW4,←hBp]
      clear hW4 hBp)
   | (obtain⟨W4,Bp,hW4,hBp,hn4,hu4⟩:∃W4 Bp,W4=w3.setCell ⟨w1.heap.size+1,0,none⟩ (.func (.func k) #[] #[])∧Bp=w1.heap.size+1∧W4.heap[Bp]?=some (.cells #[.func (.func k) #[] #[]] 191 (0,0))∧Upto [] (w1.alloc (.cells #[.int .i64 3,.string ⟨tx.toArray⟩,.int .i64 tv,.int .i64 tl,.int .i64 tc] 83)) W4 :=
      ⟨_,_,rfl,rfl,by have:=kCw HN2.out 0 (.func (.func k) #[] #[]);simpa using this,HU3.out.setCell (Or.inr (by simp)) _⟩
      rw [←hW4,←hBp]
      clear hW4 hBp)
   | (obtain⟨W4,Bp,hW4,hBp,hn4,hu4⟩:∃W4 Bp,W4=w3∧Bp=w1.heap.size+1∧W4.heap[Bp]?=some (.cells #[.func (.func k) #[] #[]] 191 (0,0))∧Upto [] (w1.alloc (.cells #[.int .i64 3,.string ⟨tx.toArray⟩,.int .i64 tv,.int .i64 tl,.int .i64 tc] 83)) W4 :=
      ⟨_,_,rfl,rfl,HN2.out,HU3.out⟩
      rw [←hW4,←hBp]
      clear hW4 hBp)
   have HR4:=Lib.hid (HR2.out.ext hu4)
   have HX4:=Lib.hid (HX2.out.ext hu4)
   have HU4:=Lib.hid (HU2.out.trans_ext hu4)
   have hz4:=hu4.at HZ2.out (by simp)
   have HNW:Hid (W4.heap[w.heap.size]?=some (.cells #[.int .i64 0,.slice none 0 0,.int .i64 0,.int .i64 0,.int .i64 0,.slice none 0 0] 34 (0,0))):=Lib.hid hz4
   have q0:=kAz hn4 0
   simp only [List.getElem?_toArray,List.getElem?_cons_zero] at q0
   obtain⟨⟨vr,hb4,-,-⟩,-,-⟩:=id HR4.out
   have b2:=kAz hb4 2
   unfold rdC at b2
   simp only [List.getElem?_toArray,List.getElem?_cons_zero,List.getElem?_cons_succ] at b2
   clear hn4 hu4 hz4 hb4
   go_wp2_with fail
   refine (HC.out W4 HU4.out HX4.out HR4.out).mono ?_
   rintro e w5 ⟨vv,rfl,hn,hR5,hu5,ha⟩
   obtain⟨oa,na1,na2,na3,sa,ma,qa,la1,la2,la3,rfl⟩:=hn.six
   have hz:=hu5.at HNW.out (by have:=HpB.out;simp;omega)
   obtain⟨z0,z1,z2,z3,z4,z5⟩:=kAx hz
   obtain⟨y0,y1,y2,y3,y4,y5⟩:=kDk hz
   have HZ:=Lib.hid hz
   have HN5:=Lib.hid hn
   have HR5:=Lib.hid hR5
   have HU5:=Lib.hid (HU4.out.trans_same hu5)
   have HA:=Lib.hid ha
   have HS4:=Lib.hid (And.intro (kAk HNW.out) HU4.out.size)
   clear hn hR5 hu5 ha hz
   go_wp2_with fail
   have hst:=kEz HZ.out (.int .i64 oa) (.slice na1 na2 na3) (.int .i64 sa) (.int .i64 ma) (.int .i64 qa) (.slice la1 la2 la3)
   obtain⟨q0,q1,q2,q3,q4,q5⟩:=kAx hst
   exact bodyPost_ret (v:=.agg #[.int .i64 oa,.slice na1 na2 na3,.int .i64 sa,.int .i64 ma,.int .i64 qa,.slice la1 la2 la3]) (by simp [results,Tryz.results147,go_sem,q0,q1,q2,q3,q4,q5]) rfl (kEx (Nat.le_refl _) HpB.out HU5.out HR5.out HZ.out HA.out HN5.out (fun b hb _=>by have h1:=HS4.out;unfold New at hb ⊢;omega)))
 ·subst h4
  have HpB:Hid (p<w.heap.size):=Lib.hid h.lt
  have hu0:Upto [] w (w.alloc (.cells #[.int .i64 0,.slice none 0 0,.int .i64 0,.int .i64 0,.int .i64 0,.slice none 0 0] 34)):=(Upto.refl [] w).alloc _
  have HR0:=Lib.hid (h.ext hu0)
  have HX0:=Lib.hid (hx.ext hu0)
  have HU0:Hid (Upto [p] w (w.alloc (.cells #[.int .i64 0,.slice none 0 0,.int .i64 0,.int .i64 0,.int .i64 0,.slice none 0 0] 34))):=Lib.hid (hu0.mono (by simp))
  have HNew:Hid ((w.alloc (.cells #[.int .i64 0,.slice none 0 0,.int .i64 0,.int .i64 0,.int .i64 0,.slice none 0 0] 34)).heap[w.heap.size]?=some (.cells #[.int .i64 0,.slice none 0 0,.int .i64 0,.int .i64 0,.int .i64 0,.slice none 0 0] 34 (0,0))):=Lib.hid (kAq _ _)
  have HN:=Lib.hid (kHw _ p l s HR0.out)
  clear h hu0
  go_enter Tryz.func147,Tryz.ntmps147
  go_wp2_with fail
  refine HN.out.mono ?_
  rintro e w1 ⟨rfl,hu1⟩
  rw [HT.out]
  unfold tkA
  have HU1:=Lib.hid (HU0.out.trans_ext hu1)
  have HU2:Hid (Upto [p] w (w1.alloc (.cells #[.int .i64 4,.string ⟨tx.toArray⟩,.int .i64 tv,.int .i64 tl,.int .i64 tc] 83))):=Lib.hid ((HU0.out.trans_ext hu1).alloc _)
  have HZ2:Hid ((w1.alloc (.cells #[.int .i64 4,.string ⟨tx.toArray⟩,.int .i64 tv,.int .i64 tl,.int .i64 tc] 83)).heap[w.heap.size]?=some (.cells #[.int .i64 0,.slice none 0 0,.int .i64 0,.int .i64 0,.int .i64 0,.slice none 0 0] 34 (0,0))):=Lib.hid (kCx (hu1.at HNew.out (by simp)) _)
  have HTB:Hid ((w1.alloc (.cells #[.int .i64 4,.string ⟨tx.toArray⟩,.int .i64 tv,.int .i64 tl,.int .i64 tc] 83)).heap[w1.heap.size]?=some (.cells #[.int .i64 4,.string ⟨tx.toArray⟩,.int .i64 tv,.int .i64 tl,.int .i64 tc] 83 (0,0))):=Lib.hid (kAq _ _)
  have HR2:Hid (RdAt (w1.alloc (.cells #[.int .i64 4,.string ⟨tx.toArray⟩,.int .i64 tv,.int .i64 tl,.int .i64 tc] 83)) p l s):=Lib.hid ((HR0.out.ext hu1).ext ((Upto.refl [] w1).alloc _))
  have HX2:Hid (Cx (w1.alloc (.cells #[.int .i64 4,.string ⟨tx.toArray⟩,.int .i64 tv,.int .i64 tl,.int .i64 tc] 83)) p l):=Lib.hid (HX0.out.upto ((hu1.mono (by simp)).alloc _))
  have HSZ:Hid (w.heap.size<(w1.alloc (.cells #[.int .i64 4,.string ⟨tx.toArray⟩,.int .i64 tv,.int .i64 tl,.int .i64 tc] 83)).heap.size):=Lib.hid (kAk HZ2.out)
  clear hu1 HN
  have k3:((4:Int)==3)=false:=rfl
  have k4:((4:Int)==4)=true:=rfl
  have x0:=kAz HTB.out 0
  simp only [List.getElem?_toArray,List.getElem?_cons_zero] at x0
  have xa:=kAz ((Upto.refl [] (w1.alloc (.cells #[.int .i64 4,.string ⟨tx.toArray⟩,.int .i64 tv,.int .i64 tl,.int .i64 tc] 83))).drew.at HTB.out (by simp)) 1
  have xb:=kAz (((Upto.refl [] (w1.alloc (.cells #[.int .i64 4,.string ⟨tx.toArray⟩,.int .i64 tv,.int .i64 tl,.int .i64 tc] 83))).alloc (.cells #[.nilFunc] 191)).drew.at HTB.out (by simp)) 1
  simp only [List.getElem?_toArray,List.getElem?_cons_zero,List.getElem?_cons_succ] at xa xb
  go_wp2_with fail
  go_region_with (
   first
   | (refine (kLw (w1.alloc (.cells #[.int .i64 4,.string ⟨tx.toArray⟩,.int .i64 tv,.int .i64 tl,.int .i64 tc] 83)).drew).mono ?_
      rintro e w3 ⟨b,rfl,hm3,hu3⟩
      have HU3:Hid (Upto [] (w1.alloc (.cells #[.int .i64 4,.string ⟨tx.toArray⟩,.int .i64 tv,.int .i64 tl,.int .i64 tc] 83)) w3):=Lib.hid ((Upto.refl [] _).drew.trans_ext hu3)
      have l3:=HL.out w3 b hm3
      have l4:=HL.out (w3.alloc (.cells #[.nilFunc] 191)) b (hm3.upto ((Upto.refl [] w3).alloc _) (by simp))
      have xc:=kAz (HU3.out.at HTB.out (by simp)) 1
      have xd:=kAz (((Upto.refl [] w3).alloc (.cells #[.nilFunc] 191)).at (HU3.out.at HTB.out (by simp)) (by simp)) 1
      simp only [List.getElem?_toArray,List.getElem?_cons_zero,List.getElem?_cons_succ] at xc xd
      clear hm3 hu3)
   | (refine (kLw ((w1.alloc (.cells #[.int .i64 4,.string ⟨tx.toArray⟩,.int .i64 tv,.int .i64 tl,.int .i64 tc] 83)).alloc (.cells #[.nilFunc] 191)).drew).mono ?_
      rintro e w3 ⟨b,rfl,hm3,hu3⟩
      have HU3:Hid (Upto [] (w1.alloc (.cells #[.int .i64 4,.string ⟨tx.toArray⟩,.int .i64 tv,.int .i64 tl,.int .i64 tc] 83)) w3):=Lib.hid (((Upto.refl [] _).alloc _).drew.trans_ext hu3)
      have l3:=HL.out w3 b hm3
      have xc:=kAz (HU3.out.at HTB.out (by simp)) 1
      simp only [List.getElem?_toArray,List.getElem?_cons_zero,List.getElem?_cons_succ] at xc
      have hn2:=hu3.at ((Upto.refl [] ((w1.alloc (.cells #[.int .i64 4,.string ⟨tx.toArray⟩,.int .i64 tv,.int .i64 tl,.int .i64 tc] 83)).alloc (.cells #[.nilFunc] 191))).drew.at (kAq (w1.alloc (.cells #[.int .i64 4,.string ⟨tx.toArray⟩,.int .i64 tv,.int .i64 tl,.int .i64 tc] 83)) (.cells #[.nilFunc] 191)) (by simp)) (by simp)
      (try simp only [World.size_alloc] at hn2)
      have z0:=kAz hn2 0
      have y0:=kDx hn2 0
      simp only [List.getElem?_toArray,List.getElem?_cons_zero] at z0
      have HN2:=Lib.hid hn2
      clear hm3 hu3 hn2))
  all_goals (
   first
   | (obtain⟨W4,Bp,hW4,hBp,hn4,hu4⟩:∃W4 Bp,W4=w3.alloc (.cells #[.func (.func k) #[] #[]] 191)∧Bp=w3.heap.size∧W4.heap[Bp]?=some (.cells #[.func (.func k) #[] #[]] 191 (0,0))∧Upto [] (w1.alloc (.cells #[.int .i64 4,.string ⟨tx.toArray⟩,.int .i64 tv,.int .i64 tl,.int .i64 tc] 83)) W4 :=
      ⟨_,_,rfl,rfl,kAq _ _,HU3.out.alloc _⟩
      rw [←hW4,←hBp]
      clear hW4 hBp)
   | (obtain⟨W4,Bp,hW4,hBp,hn4,hu4⟩:∃W4 Bp,W4=w3.setCell ⟨w1.heap.size+1,0,none⟩ (.func (.func k) #[] #[])∧Bp=w1.heap.size+1∧W4.heap[Bp]?=some (.cells #[.func (.func k) #[] #[]] 191 (0,0))∧Upto [] (w1.alloc (.cells #[.int .i64 4,.string ⟨tx.toArray⟩,.int .i64 tv,.int .i64 tl,.int .i64 tc] 83)) W4 :=
      ⟨_,_,rfl,rfl,by have:=kCw HN2.out 0 (.func (.func k) #[] #[]);simpa using this,HU3.out.setCell (Or.inr (by simp)) _⟩
      rw [←hW4,←hBp]
      clear hW4 hBp)
   | (obtain⟨W4,Bp,hW4,hBp,hn4,hu4⟩:∃W4 Bp,W4=w3∧Bp=w1.heap.size+1∧W4.heap[Bp]?=some (.cells #[.func (.func k) #[] #[]] 191 (0,0))∧Upto [] (w1.alloc (.cells #[.int .i64 4,.string ⟨tx.toArray⟩,.int .i64 tv,.int .i64 tl,.int .i64 tc] 83)) W4 :=
      ⟨_,_,rfl,rfl,HN2.out,HU3.out⟩
      rw [←hW4,←hBp]
      clear hW4 hBp)
   have HR4:=Lib.hid (HR2.out.ext hu4)
   have HX4:=Lib.hid (HX2.out.ext hu4)
   have HU4:=Lib.hid (HU2.out.trans_ext hu4)
   have hz4:=hu4.at HZ2.out (by simp)
   have HNW:Hid (W4.heap[w.heap.size]?=some (.cells #[.int .i64 0,.slice none 0 0,.int .i64 0,.int .i64 0,.int .i64 0,.slice none 0 0] 34 (0,0))):=Lib.hid hz4
   have q0:=kAz hn4 0
   simp only [List.getElem?_toArray,List.getElem?_cons_zero] at q0
   obtain⟨⟨vr,hb4,-,-⟩,-,-⟩:=id HR4.out
   have b2:=kAz hb4 2
   unfold rdC at b2
   simp only [List.getElem?_toArray,List.getElem?_cons_zero,List.getElem?_cons_succ] at b2
   clear hn4 hu4 hz4 hb4
   go_wp2_with fail
   refine (HC.out W4 HU4.out HX4.out HR4.out).mono ?_
   rintro e w5 ⟨vv,rfl,hn,hR5,hu5,ha⟩
   obtain⟨oa,na1,na2,na3,sa,ma,qa,la1,la2,la3,rfl⟩:=hn.six
   have hz:=hu5.at HNW.out (by have:=HpB.out;simp;omega)
   obtain⟨z0,z1,z2,z3,z4,z5⟩:=kAx hz
   obtain⟨y0,y1,y2,y3,y4,y5⟩:=kDk hz
   have HZ:=Lib.hid hz
   have HN5:=Lib.hid hn
   have HR5:=Lib.hid hR5
   have HU5:=Lib.hid (HU4.out.trans_same hu5)
   have HA:=Lib.hid ha
   have HS4:=Lib.hid (And.intro (kAk HNW.out) HU4.out.size)
   clear hn hR5 hu5 ha hz
   go_wp2_with fail
   have hst:=kEz HZ.out (.int .i64 oa) (.slice na1 na2 na3) (.int .i64 sa) (.int .i64 ma) (.int .i64 qa) (.slice la1 la2 la3)
   obtain⟨q0,q1,q2,q3,q4,q5⟩:=kAx hst
   exact bodyPost_ret (v:=.agg #[.int .i64 oa,.slice na1 na2 na3,.int .i64 sa,.int .i64 ma,.int .i64 qa,.slice la1 la2 la3]) (by simp [results,Tryz.results147,go_sem,q0,q1,q2,q3,q4,q5]) rfl (kEx (Nat.le_refl _) HpB.out HU5.out HR5.out HZ.out HA.out HN5.out (fun b hb _=>by have h1:=HS4.out;unfold New at hb ⊢;omega)))
theorem operand_none (w:World) (p:Nat) (l:List Tok) (s s':PS) (n:Nd) (hx:Cx w p l) (h:RdAt w p l s) (tk tv tl tc:Nat) (tx:List UInt8) (HT:Hid (tkAt l s=⟨tk,tx,tv,tl,tc⟩)) (hd:s.dp≤256) (hk34:tk=3∨tk=4) (HL:Hid (∀(w:World) (b:Nat),MapL Tryz.prog 9 w b kOw→(Instr.lookup 193 (.map (some b)) (.string ⟨tx.toArray⟩) true).run Tryz.prog w=.ok (.tuple #[.agg #[.nilFunc],.bool false]) w)) (he:atomP l s=some (n,s')) :
  Calls Tryz.prog 147 #[.pointer (some ⟨p,0,none⟩)] w (kMk w p l s n s'):=by
 rcases hk34 with h3 | h4
 ·subst h3
  have HpB:Hid (p<w.heap.size):=Lib.hid h.lt
  have hu0:Upto [] w (w.alloc (.cells #[.int .i64 0,.slice none 0 0,.int .i64 0,.int .i64 0,.int .i64 0,.slice none 0 0] 34)):=(Upto.refl [] w).alloc _
  have HR0:=Lib.hid (h.ext hu0)
  have HX0:=Lib.hid (hx.ext hu0)
  have HU0:Hid (Upto [p] w (w.alloc (.cells #[.int .i64 0,.slice none 0 0,.int .i64 0,.int .i64 0,.int .i64 0,.slice none 0 0] 34))):=Lib.hid (hu0.mono (by simp))
  have HNew:Hid ((w.alloc (.cells #[.int .i64 0,.slice none 0 0,.int .i64 0,.int .i64 0,.int .i64 0,.slice none 0 0] 34)).heap[w.heap.size]?=some (.cells #[.int .i64 0,.slice none 0 0,.int .i64 0,.int .i64 0,.int .i64 0,.slice none 0 0] 34 (0,0))):=Lib.hid (kAq _ _)
  have HN:=Lib.hid (kHw _ p l s HR0.out)
  clear h hu0
  go_enter Tryz.func147,Tryz.ntmps147
  go_wp2_with fail
  refine HN.out.mono ?_
  rintro e w1 ⟨rfl,hu1⟩
  rw [HT.out]
  unfold tkA
  have HU1:=Lib.hid (HU0.out.trans_ext hu1)
  have HU2:Hid (Upto [p] w (w1.alloc (.cells #[.int .i64 3,.string ⟨tx.toArray⟩,.int .i64 tv,.int .i64 tl,.int .i64 tc] 83))):=Lib.hid ((HU0.out.trans_ext hu1).alloc _)
  have HZ2:Hid ((w1.alloc (.cells #[.int .i64 3,.string ⟨tx.toArray⟩,.int .i64 tv,.int .i64 tl,.int .i64 tc] 83)).heap[w.heap.size]?=some (.cells #[.int .i64 0,.slice none 0 0,.int .i64 0,.int .i64 0,.int .i64 0,.slice none 0 0] 34 (0,0))):=Lib.hid (kCx (hu1.at HNew.out (by simp)) _)
  have HTB:Hid ((w1.alloc (.cells #[.int .i64 3,.string ⟨tx.toArray⟩,.int .i64 tv,.int .i64 tl,.int .i64 tc] 83)).heap[w1.heap.size]?=some (.cells #[.int .i64 3,.string ⟨tx.toArray⟩,.int .i64 tv,.int .i64 tl,.int .i64 tc] 83 (0,0))):=Lib.hid (kAq _ _)
  have HR2:Hid (RdAt (w1.alloc (.cells #[.int .i64 3,.string ⟨tx.toArray⟩,.int .i64 tv,.int .i64 tl,.int .i64 tc] 83)) p l s):=Lib.hid ((HR0.out.ext hu1).ext ((Upto.refl [] w1).alloc _))
  have HX2:Hid (Cx (w1.alloc (.cells #[.int .i64 3,.string ⟨tx.toArray⟩,.int .i64 tv,.int .i64 tl,.int .i64 tc] 83)) p l):=Lib.hid (HX0.out.upto ((hu1.mono (by simp)).alloc _))
  have HSZ:Hid (w.heap.size<(w1.alloc (.cells #[.int .i64 3,.string ⟨tx.toArray⟩,.int .i64 tv,.int .i64 tl,.int .i64 tc] 83)).heap.size):=Lib.hid (kAk HZ2.out)
  clear hu1 HN
  have k3:((3:Int)==3)=true:=rfl
  have x0:=kAz HTB.out 0
  simp only [List.getElem?_toArray,List.getElem?_cons_zero] at x0
  have xa:=kAz ((Upto.refl [] (w1.alloc (.cells #[.int .i64 3,.string ⟨tx.toArray⟩,.int .i64 tv,.int .i64 tl,.int .i64 tc] 83))).drew.at HTB.out (by simp)) 1
  have xb:=kAz (((Upto.refl [] (w1.alloc (.cells #[.int .i64 3,.string ⟨tx.toArray⟩,.int .i64 tv,.int .i64 tl,.int .i64 tc] 83))).alloc (.cells #[.nilFunc] 191)).drew.at HTB.out (by simp)) 1
  simp only [List.getElem?_toArray,List.getElem?_cons_zero,List.getElem?_cons_succ] at xa xb
  go_wp2_with fail
  go_region_with (
   first
   | (refine (kLw (w1.alloc (.cells #[.int .i64 3,.string ⟨tx.toArray⟩,.int .i64 tv,.int .i64 tl,.int .i64 tc] 83)).drew).mono ?_
      rintro e w3 ⟨b,rfl,hm3,hu3⟩
      have HU3:Hid (Upto [] (w1.alloc (.cells #[.int .i64 3,.string ⟨tx.toArray⟩,.int .i64 tv,.int .i64 tl,.int .i64 tc] 83)) w3):=Lib.hid ((Upto.refl [] _).drew.trans_ext hu3)
      have l3:=HL.out w3 b hm3
      have l4:=HL.out (w3.alloc (.cells #[.nilFunc] 191)) b (hm3.upto ((Upto.refl [] w3).alloc _) (by simp))
      have xc:=kAz (HU3.out.at HTB.out (by simp)) 1
      have xd:=kAz (((Upto.refl [] w3).alloc (.cells #[.nilFunc] 191)).at (HU3.out.at HTB.out (by simp)) (by simp)) 1
      simp only [List.getElem?_toArray,List.getElem?_cons_zero,List.getElem?_cons_succ] at xc xd
      clear hm3 hu3)
   | (refine (kLw ((w1.alloc (.cells #[.int .i64 3,.string ⟨tx.toArray⟩,.int .i64 tv,.int .i64 tl,.int .i64 tc] 83)).alloc (.cells #[.nilFunc] 191)).drew).mono ?_
      rintro e w3 ⟨b,rfl,hm3,hu3⟩
      have HU3:Hid (Upto [] (w1.alloc (.cells #[.int .i64 3,.string ⟨tx.toArray⟩,.int .i64 tv,.int .i64 tl,.int .i64 tc] 83)) w3):=Lib.hid (((Upto.refl [] _).alloc _).drew.trans_ext hu3)
      have l3:=HL.out w3 b hm3
      have xc:=kAz (HU3.out.at HTB.out (by simp)) 1
      simp only [List.getElem?_toArray,List.getElem?_cons_zero,List.getElem?_cons_succ] at xc
      have hn2:=hu3.at ((Upto.refl [] ((w1.alloc (.cells #[.int .i64 3,.string ⟨tx.toArray⟩,.int .i64 tv,.int .i64 tl,.int .i64 tc] 83)).alloc (.cells #[.nilFunc] 191))).drew.at (kAq (w1.alloc (.cells #[.int .i64 3,.string ⟨tx.toArray⟩,.int .i64 tv,.int .i64 tl,.int .i64 tc] 83)) (.cells #[.nilFunc] 191)) (by simp)) (by simp)
      (try simp only [World.size_alloc] at hn2)
      have z0:=kAz hn2 0
      have y0:=kDx hn2 0
      simp only [List.getElem?_toArray,List.getElem?_cons_zero] at z0
      have HN2:=Lib.hid hn2
      clear hm3 hu3 hn2))
  all_goals (
   first
   | (obtain⟨W4,Bp,hW4,hBp,hn4,hu4⟩:∃W4 Bp,W4=w3.alloc (.cells #[.nilFunc] 191)∧Bp=w3.heap.size∧W4.heap[Bp]?=some (.cells #[.nilFunc] 191 (0,0))∧Upto [] (w1.alloc (.cells #[.int .i64 3,.string ⟨tx.toArray⟩,.int .i64 tv,.int .i64 tl,.int .i64 tc] 83)) W4 :=
      ⟨_,_,rfl,rfl,kAq _ _,HU3.out.alloc _⟩
      rw [←hW4,←hBp]
      clear hW4 hBp)
   | (obtain⟨W4,Bp,hW4,hBp,hn4,hu4⟩:∃W4 Bp,W4=w3.setCell ⟨w1.heap.size+1,0,none⟩ (.nilFunc)∧Bp=w1.heap.size+1∧W4.heap[Bp]?=some (.cells #[.nilFunc] 191 (0,0))∧Upto [] (w1.alloc (.cells #[.int .i64 3,.string ⟨tx.toArray⟩,.int .i64 tv,.int .i64 tl,.int .i64 tc] 83)) W4 :=
      ⟨_,_,rfl,rfl,by have:=kCw HN2.out 0 (.nilFunc);simpa using this,HU3.out.setCell (Or.inr (by simp)) _⟩
      rw [←hW4,←hBp]
      clear hW4 hBp)
   | (obtain⟨W4,Bp,hW4,hBp,hn4,hu4⟩:∃W4 Bp,W4=w3∧Bp=w1.heap.size+1∧W4.heap[Bp]?=some (.cells #[.nilFunc] 191 (0,0))∧Upto [] (w1.alloc (.cells #[.int .i64 3,.string ⟨tx.toArray⟩,.int .i64 tv,.int .i64 tl,.int .i64 tc] 83)) W4 :=
      ⟨_,_,rfl,rfl,HN2.out,HU3.out⟩
      rw [←hW4,←hBp]
      clear hW4 hBp)
   have HR4:=Lib.hid (HR2.out.ext hu4)
   have HX4:=Lib.hid (HX2.out.ext hu4)
   have HU4:=Lib.hid (HU2.out.trans_ext hu4)
   have hz4:=hu4.at HZ2.out (by simp)
   have HNW:Hid (W4.heap[w.heap.size]?=some (.cells #[.int .i64 0,.slice none 0 0,.int .i64 0,.int .i64 0,.int .i64 0,.slice none 0 0] 34 (0,0))):=Lib.hid hz4
   have q0:=kAz hn4 0
   simp only [List.getElem?_toArray,List.getElem?_cons_zero] at q0
   obtain⟨⟨vr,hb4,-,-⟩,-,-⟩:=id HR4.out
   have b2:=kAz hb4 2
   unfold rdC at b2
   simp only [List.getElem?_toArray,List.getElem?_cons_zero,List.getElem?_cons_succ] at b2
   clear hn4 hu4 hz4 hb4
   go_wp2_with fail
   refine (atom_calls W4 p l s s' n HX4.out HR4.out hd he).mono ?_
   rintro e w5 ⟨vv,rfl,hn,hR5,hu5,ha⟩
   obtain⟨oa,na1,na2,na3,sa,ma,qa,la1,la2,la3,rfl⟩:=hn.six
   have hz:=hu5.at HNW.out (by have:=HpB.out;simp;omega)
   obtain⟨z0,z1,z2,z3,z4,z5⟩:=kAx hz
   obtain⟨y0,y1,y2,y3,y4,y5⟩:=kDk hz
   have HZ:=Lib.hid hz
   have HN5:=Lib.hid hn
   have HR5:=Lib.hid hR5
   have HU5:=Lib.hid (HU4.out.trans_same hu5)
   have HA:=Lib.hid ha
   have HS4:=Lib.hid (And.intro (kAk HNW.out) HU4.out.size)
   clear hn hR5 hu5 ha hz
   go_wp2_with fail
   have hst:=kEz HZ.out (.int .i64 oa) (.slice na1 na2 na3) (.int .i64 sa) (.int .i64 ma) (.int .i64 qa) (.slice la1 la2 la3)
   obtain⟨q0,q1,q2,q3,q4,q5⟩:=kAx hst
   exact bodyPost_ret (v:=.agg #[.int .i64 oa,.slice na1 na2 na3,.int .i64 sa,.int .i64 ma,.int .i64 qa,.slice la1 la2 la3]) (by simp [results,Tryz.results147,go_sem,q0,q1,q2,q3,q4,q5]) rfl (kEx (Nat.le_refl _) HpB.out HU5.out HR5.out HZ.out HA.out HN5.out (fun b hb _=>by have h1:=HS4.out;unfold New at hb ⊢;omega)))
 ·subst h4
  have HpB:Hid (p<w.heap.size):=Lib.hid h.lt
  have hu0:Upto [] w (w.alloc (.cells #[.int .i64 0,.slice none 0 0,.int .i64 0,.int .i64 0,.int .i64 0,.slice none 0 0] 34)):=(Upto.refl [] w).alloc _
  have HR0:=Lib.hid (h.ext hu0)
  have HX0:=Lib.hid (hx.ext hu0)
  have HU0:Hid (Upto [p] w (w.alloc (.cells #[.int .i64 0,.slice none 0 0,.int .i64 0,.int .i64 0,.int .i64 0,.slice none 0 0] 34))):=Lib.hid (hu0.mono (by simp))
  have HNew:Hid ((w.alloc (.cells #[.int .i64 0,.slice none 0 0,.int .i64 0,.int .i64 0,.int .i64 0,.slice none 0 0] 34)).heap[w.heap.size]?=some (.cells #[.int .i64 0,.slice none 0 0,.int .i64 0,.int .i64 0,.int .i64 0,.slice none 0 0] 34 (0,0))):=Lib.hid (kAq _ _)
  have HN:=Lib.hid (kHw _ p l s HR0.out)
  clear h hu0
  go_enter Tryz.func147,Tryz.ntmps147
  go_wp2_with fail
  refine HN.out.mono ?_
  rintro e w1 ⟨rfl,hu1⟩
  rw [HT.out]
  unfold tkA
  have HU1:=Lib.hid (HU0.out.trans_ext hu1)
  have HU2:Hid (Upto [p] w (w1.alloc (.cells #[.int .i64 4,.string ⟨tx.toArray⟩,.int .i64 tv,.int .i64 tl,.int .i64 tc] 83))):=Lib.hid ((HU0.out.trans_ext hu1).alloc _)
  have HZ2:Hid ((w1.alloc (.cells #[.int .i64 4,.string ⟨tx.toArray⟩,.int .i64 tv,.int .i64 tl,.int .i64 tc] 83)).heap[w.heap.size]?=some (.cells #[.int .i64 0,.slice none 0 0,.int .i64 0,.int .i64 0,.int .i64 0,.slice none 0 0] 34 (0,0))):=Lib.hid (kCx (hu1.at HNew.out (by simp)) _)
  have HTB:Hid ((w1.alloc (.cells #[.int .i64 4,.string ⟨tx.toArray⟩,.int .i64 tv,.int .i64 tl,.int .i64 tc] 83)).heap[w1.heap.size]?=some (.cells #[.int .i64 4,.string ⟨tx.toArray⟩,.int .i64 tv,.int .i64 tl,.int .i64 tc] 83 (0,0))):=Lib.hid (kAq _ _)
  have HR2:Hid (RdAt (w1.alloc (.cells #[.int .i64 4,.string ⟨tx.toArray⟩,.int .i64 tv,.int .i64 tl,.int .i64 tc] 83)) p l s):=Lib.hid ((HR0.out.ext hu1).ext ((Upto.refl [] w1).alloc _))
  have HX2:Hid (Cx (w1.alloc (.cells #[.int .i64 4,.string ⟨tx.toArray⟩,.int .i64 tv,.int .i64 tl,.int .i64 tc] 83)) p l):=Lib.hid (HX0.out.upto ((hu1.mono (by simp)).alloc _))
  have HSZ:Hid (w.heap.size<(w1.alloc (.cells #[.int .i64 4,.string ⟨tx.toArray⟩,.int .i64 tv,.int .i64 tl,.int .i64 tc] 83)).heap.size):=Lib.hid (kAk HZ2.out)
  clear hu1 HN
  have k3:((4:Int)==3)=false:=rfl
  have k4:((4:Int)==4)=true:=rfl
  have x0:=kAz HTB.out 0
  simp only [List.getElem?_toArray,List.getElem?_cons_zero] at x0
  have xa:=kAz ((Upto.refl [] (w1.alloc (.cells #[.int .i64 4,.string ⟨tx.toArray⟩,.int .i64 tv,.int .i64 tl,.int .i64 tc] 83))).drew.at HTB.out (by simp)) 1
  have xb:=kAz (((Upto.refl [] (w1.alloc (.cells #[.int .i64 4,.string ⟨tx.toArray⟩,.int .i64 tv,.int .i64 tl,.int .i64 tc] 83))).alloc (.cells #[.nilFunc] 191)).drew.at HTB.out (by simp)) 1
  simp only [List.getElem?_toArray,List.getElem?_cons_zero,List.getElem?_cons_succ] at xa xb
  go_wp2_with fail
  go_region_with (
   first
   | (refine (kLw (w1.alloc (.cells #[.int .i64 4,.string ⟨tx.toArray⟩,.int .i64 tv,.int .i64 tl,.int .i64 tc] 83)).drew).mono ?_
      rintro e w3 ⟨b,rfl,hm3,hu3⟩
      have HU3:Hid (Upto [] (w1.alloc (.cells #[.int .i64 4,.string ⟨tx.toArray⟩,.int .i64 tv,.int .i64 tl,.int .i64 tc] 83)) w3):=Lib.hid ((Upto.refl [] _).drew.trans_ext hu3)
      have l3:=HL.out w3 b hm3
      have l4:=HL.out (w3.alloc (.cells #[.nilFunc] 191)) b (hm3.upto ((Upto.refl [] w3).alloc _) (by simp))
      have xc:=kAz (HU3.out.at HTB.out (by simp)) 1
      have xd:=kAz (((Upto.refl [] w3).alloc (.cells #[.nilFunc] 191)).at (HU3.out.at HTB.out (by simp)) (by simp)) 1
      simp only [List.getElem?_toArray,List.getElem?_cons_zero,List.getElem?_cons_succ] at xc xd
      clear hm3 hu3)
   | (refine (kLw ((w1.alloc (.cells #[.int .i64 4,.string ⟨tx.toArray⟩,.int .i64 tv,.int .i64 tl,.int .i64 tc] 83)).alloc (.cells #[.nilFunc] 191)).drew).mono ?_
      rintro e w3 ⟨b,rfl,hm3,hu3⟩
      have HU3:Hid (Upto [] (w1.alloc (.cells #[.int .i64 4,.string ⟨tx.toArray⟩,.int .i64 tv,.int .i64 tl,.int .i64 tc] 83)) w3):=Lib.hid (((Upto.refl [] _).alloc _).drew.trans_ext hu3)
      have l3:=HL.out w3 b hm3
      have xc:=kAz (HU3.out.at HTB.out (by simp)) 1
      simp only [List.getElem?_toArray,List.getElem?_cons_zero,List.getElem?_cons_succ] at xc
      have hn2:=hu3.at ((Upto.refl [] ((w1.alloc (.cells #[.int .i64 4,.string ⟨tx.toArray⟩,.int .i64 tv,.int .i64 tl,.int .i64 tc] 83)).alloc (.cells #[.nilFunc] 191))).drew.at (kAq (w1.alloc (.cells #[.int .i64 4,.string ⟨tx.toArray⟩,.int .i64 tv,.int .i64 tl,.int .i64 tc] 83)) (.cells #[.nilFunc] 191)) (by simp)) (by simp)
      (try simp only [World.size_alloc] at hn2)
      have z0:=kAz hn2 0
      have y0:=kDx hn2 0
      simp only [List.getElem?_toArray,List.getElem?_cons_zero] at z0
      have HN2:=Lib.hid hn2
      clear hm3 hu3 hn2))
  all_goals (
   first
   | (obtain⟨W4,Bp,hW4,hBp,hn4,hu4⟩:∃W4 Bp,W4=w3.alloc (.cells #[.nilFunc] 191)∧Bp=w3.heap.size∧W4.heap[Bp]?=some (.cells #[.nilFunc] 191 (0,0))∧Upto [] (w1.alloc (.cells #[.int .i64 4,.string ⟨tx.toArray⟩,.int .i64 tv,.int .i64 tl,.int .i64 tc] 83)) W4 :=
      ⟨_,_,rfl,rfl,kAq _ _,HU3.out.alloc _⟩
      rw [←hW4,←hBp]
      clear hW4 hBp)
   | (obtain⟨W4,Bp,hW4,hBp,hn4,hu4⟩:∃W4 Bp,W4=w3.setCell ⟨w1.heap.size+1,0,none⟩ (.nilFunc)∧Bp=w1.heap.size+1∧W4.heap[Bp]?=some (.cells #[.nilFunc] 191 (0,0))∧Upto [] (w1.alloc (.cells #[.int .i64 4,.string ⟨tx.toArray⟩,.int .i64 tv,.int .i64 tl,.int .i64 tc] 83)) W4 :=
      ⟨_,_,rfl,rfl,by have:=kCw HN2.out 0 (.nilFunc);simpa using this,HU3.out.setCell (Or.inr (by simp)) _⟩
      rw [←hW4,←hBp]
      clear hW4 hBp)
   | (obtain⟨W4,Bp,hW4,hBp,hn4,hu4⟩:∃W4 Bp,W4=w3∧Bp=w1.heap.size+1∧W4.heap[Bp]?=some (.cells #[.nilFunc] 191 (0,0))∧Upto [] (w1.alloc (.cells #[.int .i64 4,.string ⟨tx.toArray⟩,.int .i64 tv,.int .i64 tl,.int .i64 tc] 83)) W4 :=
      ⟨_,_,rfl,rfl,HN2.out,HU3.out⟩
      rw [←hW4,←hBp]
      clear hW4 hBp)
   have HR4:=Lib.hid (HR2.out.ext hu4)
   have HX4:=Lib.hid (HX2.out.ext hu4)
   have HU4:=Lib.hid (HU2.out.trans_ext hu4)
   have hz4:=hu4.at HZ2.out (by simp)
   have HNW:Hid (W4.heap[w.heap.size]?=some (.cells #[.int .i64 0,.slice none 0 0,.int .i64 0,.int .i64 0,.int .i64 0,.slice none 0 0] 34 (0,0))):=Lib.hid hz4
   have q0:=kAz hn4 0
   simp only [List.getElem?_toArray,List.getElem?_cons_zero] at q0
   obtain⟨⟨vr,hb4,-,-⟩,-,-⟩:=id HR4.out
   have b2:=kAz hb4 2
   unfold rdC at b2
   simp only [List.getElem?_toArray,List.getElem?_cons_zero,List.getElem?_cons_succ] at b2
   clear hn4 hu4 hz4 hb4
   go_wp2_with fail
   refine (atom_calls W4 p l s s' n HX4.out HR4.out hd he).mono ?_
   rintro e w5 ⟨vv,rfl,hn,hR5,hu5,ha⟩
   obtain⟨oa,na1,na2,na3,sa,ma,qa,la1,la2,la3,rfl⟩:=hn.six
   have hz:=hu5.at HNW.out (by have:=HpB.out;simp;omega)
   obtain⟨z0,z1,z2,z3,z4,z5⟩:=kAx hz
   obtain⟨y0,y1,y2,y3,y4,y5⟩:=kDk hz
   have HZ:=Lib.hid hz
   have HN5:=Lib.hid hn
   have HR5:=Lib.hid hR5
   have HU5:=Lib.hid (HU4.out.trans_same hu5)
   have HA:=Lib.hid ha
   have HS4:=Lib.hid (And.intro (kAk HNW.out) HU4.out.size)
   clear hn hR5 hu5 ha hz
   go_wp2_with fail
   have hst:=kEz HZ.out (.int .i64 oa) (.slice na1 na2 na3) (.int .i64 sa) (.int .i64 ma) (.int .i64 qa) (.slice la1 la2 la3)
   obtain⟨q0,q1,q2,q3,q4,q5⟩:=kAx hst
   exact bodyPost_ret (v:=.agg #[.int .i64 oa,.slice na1 na2 na3,.int .i64 sa,.int .i64 ma,.int .i64 qa,.slice la1 la2 la3]) (by simp [results,Tryz.results147,go_sem,q0,q1,q2,q3,q4,q5]) rfl (kEx (Nat.le_refl _) HpB.out HU5.out HR5.out HZ.out HA.out HN5.out (fun b hb _=>by have h1:=HS4.out;unfold New at hb ⊢;omega)))
theorem kUz (w:World) (p:Nat) (l:List Tok) (s s':PS) (n:Nd) (k:FuncId) (hx:Cx w p l) (h:RdAt w p l s) (tk tv tl tc:Nat) (tx:List UInt8) (HT:Hid (tkAt l s=⟨tk,tx,tv,tl,tc⟩)) (hd:s.dp≤256) (hk34:tk=3∨tk=4) (h0:s.er≠0) (HL:Hid (∀(w:World) (b:Nat),MapL Tryz.prog 9 w b kOw→(Instr.lookup 193 (.map (some b)) (.string ⟨tx.toArray⟩) true).run Tryz.prog w=.ok (.tuple #[.agg #[.func (.func k) #[] #[]],.bool true]) w)) (he:atomP l s=some (n,s')) :
  Calls Tryz.prog 147 #[.pointer (some ⟨p,0,none⟩)] w (kMk w p l s n s'):=by
 have k0:((s.er:Int)==0)=false:=by rw [beq_eq_false_iff_ne];omega
 clear h0
 rcases hk34 with h3 | h4
 ·subst h3
  have HpB:Hid (p<w.heap.size):=Lib.hid h.lt
  have hu0:Upto [] w (w.alloc (.cells #[.int .i64 0,.slice none 0 0,.int .i64 0,.int .i64 0,.int .i64 0,.slice none 0 0] 34)):=(Upto.refl [] w).alloc _
  have HR0:=Lib.hid (h.ext hu0)
  have HX0:=Lib.hid (hx.ext hu0)
  have HU0:Hid (Upto [p] w (w.alloc (.cells #[.int .i64 0,.slice none 0 0,.int .i64 0,.int .i64 0,.int .i64 0,.slice none 0 0] 34))):=Lib.hid (hu0.mono (by simp))
  have HNew:Hid ((w.alloc (.cells #[.int .i64 0,.slice none 0 0,.int .i64 0,.int .i64 0,.int .i64 0,.slice none 0 0] 34)).heap[w.heap.size]?=some (.cells #[.int .i64 0,.slice none 0 0,.int .i64 0,.int .i64 0,.int .i64 0,.slice none 0 0] 34 (0,0))):=Lib.hid (kAq _ _)
  have HN:=Lib.hid (kHw _ p l s HR0.out)
  clear h hu0
  go_enter Tryz.func147,Tryz.ntmps147
  go_wp2_with fail
  refine HN.out.mono ?_
  rintro e w1 ⟨rfl,hu1⟩
  rw [HT.out]
  unfold tkA
  have HU1:=Lib.hid (HU0.out.trans_ext hu1)
  have HU2:Hid (Upto [p] w (w1.alloc (.cells #[.int .i64 3,.string ⟨tx.toArray⟩,.int .i64 tv,.int .i64 tl,.int .i64 tc] 83))):=Lib.hid ((HU0.out.trans_ext hu1).alloc _)
  have HZ2:Hid ((w1.alloc (.cells #[.int .i64 3,.string ⟨tx.toArray⟩,.int .i64 tv,.int .i64 tl,.int .i64 tc] 83)).heap[w.heap.size]?=some (.cells #[.int .i64 0,.slice none 0 0,.int .i64 0,.int .i64 0,.int .i64 0,.slice none 0 0] 34 (0,0))):=Lib.hid (kCx (hu1.at HNew.out (by simp)) _)
  have HTB:Hid ((w1.alloc (.cells #[.int .i64 3,.string ⟨tx.toArray⟩,.int .i64 tv,.int .i64 tl,.int .i64 tc] 83)).heap[w1.heap.size]?=some (.cells #[.int .i64 3,.string ⟨tx.toArray⟩,.int .i64 tv,.int .i64 tl,.int .i64 tc] 83 (0,0))):=Lib.hid (kAq _ _)
  have HR2:Hid (RdAt (w1.alloc (.cells #[.int .i64 3,.string ⟨tx.toArray⟩,.int .i64 tv,.int .i64 tl,.int .i64 tc] 83)) p l s):=Lib.hid ((HR0.out.ext hu1).ext ((Upto.refl [] w1).alloc _))
  have HX2:Hid (Cx (w1.alloc (.cells #[.int .i64 3,.string ⟨tx.toArray⟩,.int .i64 tv,.int .i64 tl,.int .i64 tc] 83)) p l):=Lib.hid (HX0.out.upto ((hu1.mono (by simp)).alloc _))
  have HSZ:Hid (w.heap.size<(w1.alloc (.cells #[.int .i64 3,.string ⟨tx.toArray⟩,.int .i64 tv,.int .i64 tl,.int .i64 tc] 83)).heap.size):=Lib.hid (kAk HZ2.out)
  clear hu1 HN
  have k3:((3:Int)==3)=true:=rfl
  have x0:=kAz HTB.out 0
  simp only [List.getElem?_toArray,List.getElem?_cons_zero] at x0
  have xa:=kAz ((Upto.refl [] (w1.alloc (.cells #[.int .i64 3,.string ⟨tx.toArray⟩,.int .i64 tv,.int .i64 tl,.int .i64 tc] 83))).drew.at HTB.out (by simp)) 1
  have xb:=kAz (((Upto.refl [] (w1.alloc (.cells #[.int .i64 3,.string ⟨tx.toArray⟩,.int .i64 tv,.int .i64 tl,.int .i64 tc] 83))).alloc (.cells #[.nilFunc] 191)).drew.at HTB.out (by simp)) 1
  simp only [List.getElem?_toArray,List.getElem?_cons_zero,List.getElem?_cons_succ] at xa xb
  go_wp2_with fail
  go_region_with (
   first
   | (refine (kLw (w1.alloc (.cells #[.int .i64 3,.string ⟨tx.toArray⟩,.int .i64 tv,.int .i64 tl,.int .i64 tc] 83)).drew).mono ?_
      rintro e w3 ⟨b,rfl,hm3,hu3⟩
      have HU3:Hid (Upto [] (w1.alloc (.cells #[.int .i64 3,.string ⟨tx.toArray⟩,.int .i64 tv,.int .i64 tl,.int .i64 tc] 83)) w3):=Lib.hid ((Upto.refl [] _).drew.trans_ext hu3)
      have l3:=HL.out w3 b hm3
      have l4:=HL.out (w3.alloc (.cells #[.nilFunc] 191)) b (hm3.upto ((Upto.refl [] w3).alloc _) (by simp))
      have xc:=kAz (HU3.out.at HTB.out (by simp)) 1
      have xd:=kAz (((Upto.refl [] w3).alloc (.cells #[.nilFunc] 191)).at (HU3.out.at HTB.out (by simp)) (by simp)) 1
      simp only [List.getElem?_toArray,List.getElem?_cons_zero,List.getElem?_cons_succ] at xc xd
      clear hm3 hu3)
   | (refine (kLw ((w1.alloc (.cells #[.int .i64 3,.string ⟨tx.toArray⟩,.int .i64 tv,.int .i64 tl,.int .i64 tc] 83)).alloc (.cells #[.nilFunc] 191)).drew).mono ?_
      rintro e w3 ⟨b,rfl,hm3,hu3⟩
      have HU3:Hid (Upto [] (w1.alloc (.cells #[.int .i64 3,.string ⟨tx.toArray⟩,.int .i64 tv,.int .i64 tl,.int .i64 tc] 83)) w3):=Lib.hid (((Upto.refl [] _).alloc _).drew.trans_ext hu3)
      have l3:=HL.out w3 b hm3
      have xc:=kAz (HU3.out.at HTB.out (by simp)) 1
      simp only [List.getElem?_toArray,List.getElem?_cons_zero,List.getElem?_cons_succ] at xc
      have hn2:=hu3.at ((Upto.refl [] ((w1.alloc (.cells #[.int .i64 3,.string ⟨tx.toArray⟩,.int .i64 tv,.int .i64 tl,.int .i64 tc] 83)).alloc (.cells #[.nilFunc] 191))).drew.at (kAq (w1.alloc (.cells #[.int .i64 3,.string ⟨tx.toArray⟩,.int .i64 tv,.int .i64 tl,.int .i64 tc] 83)) (.cells #[.nilFunc] 191)) (by simp)) (by simp)
      (try simp only [World.size_alloc] at hn2)
      have z0:=kAz hn2 0
      have y0:=kDx hn2 0
      simp only [List.getElem?_toArray,List.getElem?_cons_zero] at z0
      have HN2:=Lib.hid hn2
      clear hm3 hu3 hn2))
  all_goals (
   first
   | (obtain⟨W4,Bp,hW4,hBp,hn4,hu4⟩:∃W4 Bp,W4=w3.alloc (.cells #[.func (.func k) #[] #[]] 191)∧Bp=w3.heap.size∧W4.heap[Bp]?=some (.cells #[.func (.func k) #[] #[]] 191 (0,0))∧Upto [] (w1.alloc (.cells #[.int .i64 3,.string ⟨tx.toArray⟩,.int .i64 tv,.int .i64 tl,.int .i64 tc] 83)) W4 :=
      ⟨_,_,rfl,rfl,kAq _ _,HU3.out.alloc _⟩
      rw [←hW4,←hBp]
      clear hW4 hBp)
   | (obtain⟨W4,Bp,hW4,hBp,hn4,hu4⟩:∃W4 Bp,W4=w3.setCell ⟨w1.heap.size+1,0,none⟩ (.func (.func k) #[] #[])∧Bp=w1.heap.size+1∧W4.heap[Bp]?=some (.cells #[.func (.func k) #[] #[]] 191 (0,0))∧Upto [] (w1.alloc (.cells #[.int .i64 3,.string ⟨tx.toArray⟩,.int .i64 tv,.int .i64 tl,.int .i64 tc] 83)) W4 :=
      ⟨_,_,rfl,rfl,by have:=kCw HN2.out 0 (.func (.func k) #[] #[]);simpa using this,HU3.out.setCell (Or.inr (by simp)) _⟩
      rw [←hW4,←hBp]
      clear hW4 hBp)
   | (obtain⟨W4,Bp,hW4,hBp,hn4,hu4⟩:∃W4 Bp,W4=w3∧Bp=w1.heap.size+1∧W4.heap[Bp]?=some (.cells #[.func (.func k) #[] #[]] 191 (0,0))∧Upto [] (w1.alloc (.cells #[.int .i64 3,.string ⟨tx.toArray⟩,.int .i64 tv,.int .i64 tl,.int .i64 tc] 83)) W4 :=
      ⟨_,_,rfl,rfl,HN2.out,HU3.out⟩
      rw [←hW4,←hBp]
      clear hW4 hBp)
   have HR4:=Lib.hid (HR2.out.ext hu4)
   have HX4:=Lib.hid (HX2.out.ext hu4)
   have HU4:=Lib.hid (HU2.out.trans_ext hu4)
   have hz4:=hu4.at HZ2.out (by simp)
   have HNW:Hid (W4.heap[w.heap.size]?=some (.cells #[.int .i64 0,.slice none 0 0,.int .i64 0,.int .i64 0,.int .i64 0,.slice none 0 0] 34 (0,0))):=Lib.hid hz4
   have q0:=kAz hn4 0
   simp only [List.getElem?_toArray,List.getElem?_cons_zero] at q0
   obtain⟨⟨vr,hb4,-,-⟩,-,-⟩:=id HR4.out
   have b2:=kAz hb4 2
   unfold rdC at b2
   simp only [List.getElem?_toArray,List.getElem?_cons_zero,List.getElem?_cons_succ] at b2
   clear hn4 hu4 hz4 hb4
   go_wp2_with fail
   refine (atom_calls W4 p l s s' n HX4.out HR4.out hd he).mono ?_
   rintro e w5 ⟨vv,rfl,hn,hR5,hu5,ha⟩
   obtain⟨oa,na1,na2,na3,sa,ma,qa,la1,la2,la3,rfl⟩:=hn.six
   have hz:=hu5.at HNW.out (by have:=HpB.out;simp;omega)
   obtain⟨z0,z1,z2,z3,z4,z5⟩:=kAx hz
   obtain⟨y0,y1,y2,y3,y4,y5⟩:=kDk hz
   have HZ:=Lib.hid hz
   have HN5:=Lib.hid hn
   have HR5:=Lib.hid hR5
   have HU5:=Lib.hid (HU4.out.trans_same hu5)
   have HA:=Lib.hid ha
   have HS4:=Lib.hid (And.intro (kAk HNW.out) HU4.out.size)
   clear hn hR5 hu5 ha hz
   go_wp2_with fail
   have hst:=kEz HZ.out (.int .i64 oa) (.slice na1 na2 na3) (.int .i64 sa) (.int .i64 ma) (.int .i64 qa) (.slice la1 la2 la3)
   obtain⟨q0,q1,q2,q3,q4,q5⟩:=kAx hst
   exact bodyPost_ret (v:=.agg #[.int .i64 oa,.slice na1 na2 na3,.int .i64 sa,.int .i64 ma,.int .i64 qa,.slice la1 la2 la3]) (by simp [results,Tryz.results147,go_sem,q0,q1,q2,q3,q4,q5]) rfl (kEx (Nat.le_refl _) HpB.out HU5.out HR5.out HZ.out HA.out HN5.out (fun b hb _=>by have h1:=HS4.out;unfold New at hb ⊢;omega)))
 ·subst h4
  have HpB:Hid (p<w.heap.size):=Lib.hid h.lt
  have hu0:Upto [] w (w.alloc (.cells #[.int .i64 0,.slice none 0 0,.int .i64 0,.int .i64 0,.int .i64 0,.slice none 0 0] 34)):=(Upto.refl [] w).alloc _
  have HR0:=Lib.hid (h.ext hu0)
  have HX0:=Lib.hid (hx.ext hu0)
  have HU0:Hid (Upto [p] w (w.alloc (.cells #[.int .i64 0,.slice none 0 0,.int .i64 0,.int .i64 0,.int .i64 0,.slice none 0 0] 34))):=Lib.hid (hu0.mono (by simp))
  have HNew:Hid ((w.alloc (.cells #[.int .i64 0,.slice none 0 0,.int .i64 0,.int .i64 0,.int .i64 0,.slice none 0 0] 34)).heap[w.heap.size]?=some (.cells #[.int .i64 0,.slice none 0 0,.int .i64 0,.int .i64 0,.int .i64 0,.slice none 0 0] 34 (0,0))):=Lib.hid (kAq _ _)
  have HN:=Lib.hid (kHw _ p l s HR0.out)
  clear h hu0
  go_enter Tryz.func147,Tryz.ntmps147
  go_wp2_with fail
  refine HN.out.mono ?_
  rintro e w1 ⟨rfl,hu1⟩
  rw [HT.out]
  unfold tkA
  have HU1:=Lib.hid (HU0.out.trans_ext hu1)
  have HU2:Hid (Upto [p] w (w1.alloc (.cells #[.int .i64 4,.string ⟨tx.toArray⟩,.int .i64 tv,.int .i64 tl,.int .i64 tc] 83))):=Lib.hid ((HU0.out.trans_ext hu1).alloc _)
  have HZ2:Hid ((w1.alloc (.cells #[.int .i64 4,.string ⟨tx.toArray⟩,.int .i64 tv,.int .i64 tl,.int .i64 tc] 83)).heap[w.heap.size]?=some (.cells #[.int .i64 0,.slice none 0 0,.int .i64 0,.int .i64 0,.int .i64 0,.slice none 0 0] 34 (0,0))):=Lib.hid (kCx (hu1.at HNew.out (by simp)) _)
  have HTB:Hid ((w1.alloc (.cells #[.int .i64 4,.string ⟨tx.toArray⟩,.int .i64 tv,.int .i64 tl,.int .i64 tc] 83)).heap[w1.heap.size]?=some (.cells #[.int .i64 4,.string ⟨tx.toArray⟩,.int .i64 tv,.int .i64 tl,.int .i64 tc] 83 (0,0))):=Lib.hid (kAq _ _)
  have HR2:Hid (RdAt (w1.alloc (.cells #[.int .i64 4,.string ⟨tx.toArray⟩,.int .i64 tv,.int .i64 tl,.int .i64 tc] 83)) p l s):=Lib.hid ((HR0.out.ext hu1).ext ((Upto.refl [] w1).alloc _))
  have HX2:Hid (Cx (w1.alloc (.cells #[.int .i64 4,.string ⟨tx.toArray⟩,.int .i64 tv,.int .i64 tl,.int .i64 tc] 83)) p l):=Lib.hid (HX0.out.upto ((hu1.mono (by simp)).alloc _))
  have HSZ:Hid (w.heap.size<(w1.alloc (.cells #[.int .i64 4,.string ⟨tx.toArray⟩,.int .i64 tv,.int .i64 tl,.int .i64 tc] 83)).heap.size):=Lib.hid (kAk HZ2.out)
  clear hu1 HN
  have k3:((4:Int)==3)=false:=rfl
  have k4:((4:Int)==4)=true:=rfl
  have x0:=kAz HTB.out 0
  simp only [List.getElem?_toArray,List.getElem?_cons_zero] at x0
  have xa:=kAz ((Upto.refl [] (w1.alloc (.cells #[.int .i64 4,.string ⟨tx.toArray⟩,.int .i64 tv,.int .i64 tl,.int .i64 tc] 83))).drew.at HTB.out (by simp)) 1
  have xb:=kAz (((Upto.refl [] (w1.alloc (.cells #[.int .i64 4,.string ⟨tx.toArray⟩,.int .i64 tv,.int .i64 tl,.int .i64 tc] 83))).alloc (.cells #[.nilFunc] 191)).drew.at HTB.out (by simp)) 1
  simp only [List.getElem?_toArray,List.getElem?_cons_zero,List.getElem?_cons_succ] at xa xb
  go_wp2_with fail
  go_region_with (
   first
   | (refine (kLw (w1.alloc (.cells #[.int .i64 4,.string ⟨tx.toArray⟩,.int .i64 tv,.int .i64 tl,.int .i64 tc] 83)).drew).mono ?_
      rintro e w3 ⟨b,rfl,hm3,hu3⟩
      have HU3:Hid (Upto [] (w1.alloc (.cells #[.int .i64 4,.string ⟨tx.toArray⟩,.int .i64 tv,.int .i64 tl,.int .i64 tc] 83)) w3):=Lib.hid ((Upto.refl [] _).drew.trans_ext hu3)
      have l3:=HL.out w3 b hm3
      have l4:=HL.out (w3.alloc (.cells #[.nilFunc] 191)) b (hm3.upto ((Upto.refl [] w3).alloc _) (by simp))
      have xc:=kAz (HU3.out.at HTB.out (by simp)) 1
      have xd:=kAz (((Upto.refl [] w3).alloc (.cells #[.nilFunc] 191)).at (HU3.out.at HTB.out (by simp)) (by simp)) 1
      simp only [List.getElem?_toArray,List.getElem?_cons_zero,List.getElem?_cons_succ] at xc xd
      clear hm3 hu3)
   | (refine (kLw ((w1.alloc (.cells #[.int .i64 4,.string ⟨tx.toArray⟩,.int .i64 tv,.int .i64 tl,.int .i64 tc] 83)).alloc (.cells #[.nilFunc] 191)).drew).mono ?_
      rintro e w3 ⟨b,rfl,hm3,hu3⟩
      have HU3:Hid (Upto [] (w1.alloc (.cells #[.int .i64 4,.string ⟨tx.toArray⟩,.int .i64 tv,.int .i64 tl,.int .i64 tc] 83)) w3):=Lib.hid (((Upto.refl [] _).alloc _).drew.trans_ext hu3)
      have l3:=HL.out w3 b hm3
      have xc:=kAz (HU3.out.at HTB.out (by simp)) 1
      simp only [List.getElem?_toArray,List.getElem?_cons_zero,List.getElem?_cons_succ] at xc
      have hn2:=hu3.at ((Upto.refl [] ((w1.alloc (.cells #[.int .i64 4,.string ⟨tx.toArray⟩,.int .i64 tv,.int .i64 tl,.int .i64 tc] 83)).alloc (.cells #[.nilFunc] 191))).drew.at (kAq (w1.alloc (.cells #[.int .i64 4,.string ⟨tx.toArray⟩,.int .i64 tv,.int .i64 tl,.int .i64 tc] 83)) (.cells #[.nilFunc] 191)) (by simp)) (by simp)
      (try simp only [World.size_alloc] at hn2)
      have z0:=kAz hn2 0
      have y0:=kDx hn2 0
      simp only [List.getElem?_toArray,List.getElem?_cons_zero] at z0
      have HN2:=Lib.hid hn2
      clear hm3 hu3 hn2))
  all_goals (
   first
   | (obtain⟨W4,Bp,hW4,hBp,hn4,hu4⟩:∃W4 Bp,W4=w3.alloc (.cells #[.func (.func k) #[] #[]] 191)∧Bp=w3.heap.size∧W4.heap[Bp]?=some (.cells #[.func (.func k) #[] #[]] 191 (0,0))∧Upto [] (w1.alloc (.cells #[.int .i64 4,.string ⟨tx.toArray⟩,.int .i64 tv,.int .i64 tl,.int .i64 tc] 83)) W4 :=
      ⟨_,_,rfl,rfl,kAq _ _,HU3.out.alloc _⟩
      rw [←hW4,←hBp]
      clear hW4 hBp)
   | (obtain⟨W4,Bp,hW4,hBp,hn4,hu4⟩:∃W4 Bp,W4=w3.setCell ⟨w1.heap.size+1,0,none⟩ (.func (.func k) #[] #[])∧Bp=w1.heap.size+1∧W4.heap[Bp]?=some (.cells #[.func (.func k) #[] #[]] 191 (0,0))∧Upto [] (w1.alloc (.cells #[.int .i64 4,.string ⟨tx.toArray⟩,.int .i64 tv,.int .i64 tl,.int .i64 tc] 83)) W4 :=
      ⟨_,_,rfl,rfl,by have:=kCw HN2.out 0 (.func (.func k) #[] #[]);simpa using this,HU3.out.setCell (Or.inr (by simp)) _⟩
      rw [←hW4,←hBp]
      clear hW4 hBp)
   | (obtain⟨W4,Bp,hW4,hBp,hn4,hu4⟩:∃W4 Bp,W4=w3∧Bp=w1.heap.size+1∧W4.heap[Bp]?=some (.cells #[.func (.func k) #[] #[]] 191 (0,0))∧Upto [] (w1.alloc (.cells #[.int .i64 4,.string ⟨tx.toArray⟩,.int .i64 tv,.int .i64 tl,.int .i64 tc] 83)) W4 :=
      ⟨_,_,rfl,rfl,HN2.out,HU3.out⟩
      rw [←hW4,←hBp]
      clear hW4 hBp)
   have HR4:=Lib.hid (HR2.out.ext hu4)
   have HX4:=Lib.hid (HX2.out.ext hu4)
   have HU4:=Lib.hid (HU2.out.trans_ext hu4)
   have hz4:=hu4.at HZ2.out (by simp)
   have HNW:Hid (W4.heap[w.heap.size]?=some (.cells #[.int .i64 0,.slice none 0 0,.int .i64 0,.int .i64 0,.int .i64 0,.slice none 0 0] 34 (0,0))):=Lib.hid hz4
   have q0:=kAz hn4 0
   simp only [List.getElem?_toArray,List.getElem?_cons_zero] at q0
   obtain⟨⟨vr,hb4,-,-⟩,-,-⟩:=id HR4.out
   have b2:=kAz hb4 2
   unfold rdC at b2
   simp only [List.getElem?_toArray,List.getElem?_cons_zero,List.getElem?_cons_succ] at b2
   clear hn4 hu4 hz4 hb4
   go_wp2_with fail
   refine (atom_calls W4 p l s s' n HX4.out HR4.out hd he).mono ?_
   rintro e w5 ⟨vv,rfl,hn,hR5,hu5,ha⟩
   obtain⟨oa,na1,na2,na3,sa,ma,qa,la1,la2,la3,rfl⟩:=hn.six
   have hz:=hu5.at HNW.out (by have:=HpB.out;simp;omega)
   obtain⟨z0,z1,z2,z3,z4,z5⟩:=kAx hz
   obtain⟨y0,y1,y2,y3,y4,y5⟩:=kDk hz
   have HZ:=Lib.hid hz
   have HN5:=Lib.hid hn
   have HR5:=Lib.hid hR5
   have HU5:=Lib.hid (HU4.out.trans_same hu5)
   have HA:=Lib.hid ha
   have HS4:=Lib.hid (And.intro (kAk HNW.out) HU4.out.size)
   clear hn hR5 hu5 ha hz
   go_wp2_with fail
   have hst:=kEz HZ.out (.int .i64 oa) (.slice na1 na2 na3) (.int .i64 sa) (.int .i64 ma) (.int .i64 qa) (.slice la1 la2 la3)
   obtain⟨q0,q1,q2,q3,q4,q5⟩:=kAx hst
   exact bodyPost_ret (v:=.agg #[.int .i64 oa,.slice na1 na2 na3,.int .i64 sa,.int .i64 ma,.int .i64 qa,.slice la1 la2 la3]) (by simp [results,Tryz.results147,go_sem,q0,q1,q2,q3,q4,q5]) rfl (kEx (Nat.le_refl _) HpB.out HU5.out HR5.out HZ.out HA.out HN5.out (fun b hb _=>by have h1:=HS4.out;unfold New at hb ⊢;omega)))
theorem operand_other (w:World) (p:Nat) (l:List Tok) (s s':PS) (n:Nd) (hx:Cx w p l) (h:RdAt w p l s) (tk tv tl tc:Nat) (tx:List UInt8) (HT:Hid (tkAt l s=⟨tk,tx,tv,tl,tc⟩)) (hd:s.dp≤256) (h3:tk≠3) (h4:tk≠4) (he:atomP l s=some (n,s')) :
  Calls Tryz.prog 147 #[.pointer (some ⟨p,0,none⟩)] w (kMk w p l s n s'):=by
 have k3:((tk:Int)==3)=false:=by rw [beq_eq_false_iff_ne];omega
 have k4:((tk:Int)==4)=false:=by rw [beq_eq_false_iff_ne];omega
 clear h3 h4
 have HpB:Hid (p<w.heap.size):=Lib.hid h.lt
 have hu0:Upto [] w (w.alloc (.cells #[.int .i64 0,.slice none 0 0,.int .i64 0,.int .i64 0,.int .i64 0,.slice none 0 0] 34)):=(Upto.refl [] w).alloc _
 have HR0:=Lib.hid (h.ext hu0)
 have HX0:=Lib.hid (hx.ext hu0)
 have HU0:Hid (Upto [p] w (w.alloc (.cells #[.int .i64 0,.slice none 0 0,.int .i64 0,.int .i64 0,.int .i64 0,.slice none 0 0] 34))):=Lib.hid (hu0.mono (by simp))
 have HNew:Hid ((w.alloc (.cells #[.int .i64 0,.slice none 0 0,.int .i64 0,.int .i64 0,.int .i64 0,.slice none 0 0] 34)).heap[w.heap.size]?=some (.cells #[.int .i64 0,.slice none 0 0,.int .i64 0,.int .i64 0,.int .i64 0,.slice none 0 0] 34 (0,0))):=Lib.hid (kAq _ _)
 have HN:=Lib.hid (kHw _ p l s HR0.out)
 clear h hu0
 go_enter Tryz.func147,Tryz.ntmps147
 go_wp2_with fail
 refine HN.out.mono ?_
 rintro e w1 ⟨rfl,hu1⟩
 rw [HT.out]
 unfold tkA
 have HU1:=Lib.hid (HU0.out.trans_ext hu1)
 have HU2:Hid (Upto [p] w (w1.alloc (.cells #[.int .i64 tk,.string ⟨tx.toArray⟩,.int .i64 tv,.int .i64 tl,.int .i64 tc] 83))):=Lib.hid ((HU0.out.trans_ext hu1).alloc _)
 have HZ2:Hid ((w1.alloc (.cells #[.int .i64 tk,.string ⟨tx.toArray⟩,.int .i64 tv,.int .i64 tl,.int .i64 tc] 83)).heap[w.heap.size]?=some (.cells #[.int .i64 0,.slice none 0 0,.int .i64 0,.int .i64 0,.int .i64 0,.slice none 0 0] 34 (0,0))):=Lib.hid (kCx (hu1.at HNew.out (by simp)) _)
 have HTB:Hid ((w1.alloc (.cells #[.int .i64 tk,.string ⟨tx.toArray⟩,.int .i64 tv,.int .i64 tl,.int .i64 tc] 83)).heap[w1.heap.size]?=some (.cells #[.int .i64 tk,.string ⟨tx.toArray⟩,.int .i64 tv,.int .i64 tl,.int .i64 tc] 83 (0,0))):=Lib.hid (kAq _ _)
 have HR2:Hid (RdAt (w1.alloc (.cells #[.int .i64 tk,.string ⟨tx.toArray⟩,.int .i64 tv,.int .i64 tl,.int .i64 tc] 83)) p l s):=Lib.hid ((HR0.out.ext hu1).ext ((Upto.refl [] w1).alloc _))
 have HX2:Hid (Cx (w1.alloc (.cells #[.int .i64 tk,.string ⟨tx.toArray⟩,.int .i64 tv,.int .i64 tl,.int .i64 tc] 83)) p l):=Lib.hid (HX0.out.upto ((hu1.mono (by simp)).alloc _))
 have HSZ:Hid (w.heap.size<(w1.alloc (.cells #[.int .i64 tk,.string ⟨tx.toArray⟩,.int .i64 tv,.int .i64 tl,.int .i64 tc] 83)).heap.size):=Lib.hid (kAk HZ2.out)
 clear hu1 HN
 have x0:=kAz HTB.out 0
 simp only [List.getElem?_toArray,List.getElem?_cons_zero] at x0
 have HU4:=HU2
 have HNW:=HZ2
 go_wp2_with fail
 refine (atom_calls _ p l s s' n HX2.out HR2.out hd he).mono ?_
 rintro e w5 ⟨vv,rfl,hn,hR5,hu5,ha⟩
 obtain⟨oa,na1,na2,na3,sa,ma,qa,la1,la2,la3,rfl⟩:=hn.six
 have hz:=hu5.at HNW.out (by have:=HpB.out;simp;omega)
 obtain⟨z0,z1,z2,z3,z4,z5⟩:=kAx hz
 obtain⟨y0,y1,y2,y3,y4,y5⟩:=kDk hz
 have HZ:=Lib.hid hz
 have HN5:=Lib.hid hn
 have HR5:=Lib.hid hR5
 have HU5:=Lib.hid (HU4.out.trans_same hu5)
 have HA:=Lib.hid ha
 have HS4:=Lib.hid (And.intro (kAk HNW.out) HU4.out.size)
 clear hn hR5 hu5 ha hz
 go_wp2_with fail
 have hst:=kEz HZ.out (.int .i64 oa) (.slice na1 na2 na3) (.int .i64 sa) (.int .i64 ma) (.int .i64 qa) (.slice la1 la2 la3)
 obtain⟨q0,q1,q2,q3,q4,q5⟩:=kAx hst
 exact bodyPost_ret (v:=.agg #[.int .i64 oa,.slice na1 na2 na3,.int .i64 sa,.int .i64 ma,.int .i64 qa,.slice la1 la2 la3]) (by simp [results,Tryz.results147,go_sem,q0,q1,q2,q3,q4,q5]) rfl (kEx (Nat.le_refl _) HpB.out HU5.out HR5.out HZ.out HA.out HN5.out (fun b hb _=>by have h1:=HS4.out;unfold New at hb ⊢;omega))
end Go.Proofs.YtkhbpebpljdifaaGreatDoor
namespace Go.Proofs.YtkhbpebpljdifaaGreatDoor
open Go.RowKit Go.PL Go.Maps Go.Shelf
attribute [local go_sem] Oper.semAt_some
def KeepsL (L:List Nat) (W W':World):Prop:=∀k∈L,W'.heap[k]?=W.heap[k]?
theorem KeepsL.trans {L:List Nat} {A B C:World} (h:KeepsL L A B) (k:KeepsL L B C):KeepsL L A C:=fun i hi=>(k i hi).trans (h i hi)
abbrev Ix (r:Nat):Type:={ i:Nat // i<r }
def encsB (r:Nat) (c:Nat→Nat→Value) (x:Ix r):Array Value:=#[.int .i64 x.1,.agg #[c x.1 0,c x.1 1,c x.1 2,c x.1 3,c x.1 4,c x.1 5]]
def Down {r:Nat} (xs:List (Ix r)):Prop:=xs.length≤r∧∀(j:Nat) x,xs[j]?=some x→x.1+j+1=r
theorem backn_in (n:Nat) (a:Option Addr) (len cap:Nat) (w:World) :
  CallsIn Fence.wide n Tryz.prog 125 #[.slice a len cap] w fun e w'=>e=.returned (.func (.func 148) #[] #[.pointer (some ⟨w.heap.size,0,none⟩)])∧w'=w.alloc (.cells #[.slice a len cap] 32):=by
 refine callsIn_of_wp Tryz.func125 rfl trivial ?_ rfl
 simp only [Tryz.ntmps125,List.size_toArray,List.length_cons,List.length_nil,Nat.reduceAdd,Nat.reduceSub,Array.replicate_succ,Array.replicate_zero,List.push_toArray,List.append_toArray,List.nil_append,List.cons_append]
 gi_wp2
 go_ret
 exact⟨rfl,rfl⟩
theorem back_in (n:Nat) (hn:1≤n) (l Bs g o r cap:Nat) (hr:r≤100000000) (c:Nat→Nat→Value) (J Jx:List (Ix r)→World→Prop)
  (hY:∀pre x W,J pre W→pre.length<r→YieldAt Fence.wide (n-1) Tryz.prog l (encsB r c x) W fun e W' =>
   (e=.returned (.bool true)∧J (pre++[x]) W'∧KeepsL [Bs,g] W W')∨(e=.returned (.bool false)∧Jx (pre++[x]) W'))
  (W:World) (hBs:W.heap[Bs]?=some (.cells #[.slice (some ⟨g,o,none⟩) r cap] 32 (0,0))) (hc:∀i j,i<r→j<6→W.cell? ⟨g,o+i*6+j,none⟩=some (c i j)) (h0:J [] W) :
  CallsIn Fence.wide n Tryz.prog 148 #[.func (.yield l) #[] #[],.pointer (some ⟨Bs,0,none⟩)] W fun e W'=>(∃v,e=.returned v) ∧
   ((∃ys,(Down ys∧ys.length=r)∧J ys W')∨(∃pre,Down pre∧Jx pre W')):=by
 have c0:=kAz hBs 0
 simp only [List.getElem?_toArray,List.getElem?_cons_zero] at c0
 have HBS:=Lib.hid hBs
 have HCC:=Lib.hid hc
 have hr0:(0:Int)≤r:=by omega
 have hr1:(r:Int)≤100000000:=by omega
 clear hBs hc
 refine callsIn_of_wp Tryz.func148 rfl trivial ?_ rfl
 simp only [Tryz.ntmps148,List.size_toArray,List.length_cons,List.length_nil,Nat.reduceAdd,Nat.reduceSub,Array.replicate_succ,Array.replicate_zero,List.push_toArray,List.append_toArray,List.nil_append,List.cons_append]
 gi_wp2
 gi_loopw [3] (fun i wr=>∃(m:Nat) (pre:List (Ix r)),i=.int .i64 ((m:Int)-1)∧pre.length+m=r∧Hid (Down pre∧J pre wr∧KeepsL [Bs,g] W wr)) (fun i _=>(intOf i+1).toNat)
 case atStart=>exact⟨r,[],rfl,by simp,Lib.hid ⟨⟨by simp,fun j x h=>by simp at h⟩,h0,fun _ _=>rfl⟩⟩
 case round =>
  obtain⟨m,pre,rfl,hm,HI⟩:=hrel
  clear c0
  cases m with
  | zero =>
   gi_wp2
   go_end0
   exact⟨⟨_,rfl⟩,.inl ⟨pre,⟨HI.out.1,by simpa using hm⟩,HI.out.2.1⟩⟩
  | succ q =>
   have hi:((q+1:Nat):Int)-1=q:=by omega
   rw [hi]
   have hq:q<r:=by omega
   have hqI:(q:Int)<r:=by omega
   have hq0:(0:Int)≤q:=by omega
   have hb:=(HI.out.2.2 Bs (by simp)).trans HBS.out
   have hg:=HI.out.2.2 g (by simp)
   have c0:=kAz hb 0
   simp only [List.getElem?_toArray,List.getElem?_cons_zero] at c0
   have up:∀j,j<6→wr.cell? ⟨g,o+q*6+j,none⟩=some (c q j):=fun j hj=>(World.cell?_of_block (w:=W) hg).trans (HCC.out q j hq hj)
   have e0:=up 0 (by decide)
   have e1:=up 1 (by decide)
   have e2:=up 2 (by decide)
   have e3:=up 3 (by decide)
   have e4:=up 4 (by decide)
   have e5:=up 5 (by decide)
   rw [Nat.add_zero] at e0
   obtain⟨fn,tmps,assign,body,hy,hR⟩:=hY pre ⟨q,hq⟩ wr HI.out.2.1 (by omega)
   unfold encsB at hy
   simp only at hy
   have HD:Hid (Down (pre++[(⟨q,hq⟩:Ix r)])):=Lib.hid ⟨by simp;omega,fun j x hx=>by
    by_cases hj:j<pre.length
    ·rw [List.getElem?_append_left hj] at hx
     exact HI.out.1.2 j x hx
    ·rw [List.getElem?_append_right (by omega)] at hx
     cases hd:j-pre.length with
     | zero=>rw [hd] at hx;simp at hx;subst hx;simp;omega
     | succ z=>rw [hd] at hx;simp at hx⟩
   clear up hg hb
   generalize c q 0=v0 at *
   generalize c q 1=v1 at *
   generalize c q 2=v2 at *
   generalize c q 3=v3 at *
   generalize c q 4=v4 at *
   generalize c q 5=v5 at *
   gi_wp2
   refine hR.mono ?_
   rintro e W3 (⟨rfl,hJ3,hB3⟩ | ⟨rfl,hJx3⟩)
   ·gi_wp2
    go_roundw
    case rel=>exact⟨q,pre++[⟨q,hq⟩],rfl,by simp;omega,Lib.hid ⟨HD.out,hJ3,HI.out.2.2.trans hB3⟩⟩
    case measure=>simp [intOf]
   ·gi_wp2
    refine bodyPost_ret (results_none rfl _ _ _) rfl ?_
    exact⟨⟨_,rfl⟩,.inr ⟨pre++[⟨q,hq⟩],HD.out,hJx3⟩⟩
theorem back_stops (n:Nat) (hn:1≤n) (Bs g o r cap:Nat) (hr:r≤100000000) (c:Nat→Nat→Value) (w:World) (hg:g<w.heap.size) (hBs:w.heap[Bs]?=some (.cells #[.slice (some ⟨g,o,none⟩) r cap] 32 (0,0))) (hc:∀i j,i<r→j<6→w.cell? ⟨g,o+i*6+j,none⟩=some (c i j)) :
  SeqStopsK Fence.wide n Tryz.prog 148 #[.pointer (some ⟨Bs,0,none⟩)] (encsB r c) (KeepsL [Bs,g]) (fun ys=>Down ys∧ys.length=r) (fun pre=>Down pre) r w:=fun l J Jx W hW _ _ hY h0 =>
 back_in n hn l Bs g o r cap hr c J Jx hY W ((hW.block Bs (kAk hBs)).trans hBs) (fun i j hi hj=>(hW.cell (p:=⟨g,o+i*6+j,none⟩) hg).trans (hc i j hi hj)) h0
def cellsN (c:Nat→Nat→Value) (n:Nat):List Value:=(List.range n).flatMap fun i=>[c i 0,c i 1,c i 2,c i 3,c i 4,c i 5]
theorem cellsN_at (c:Nat→Nat→Value) {n i j:Nat} (hi:i<n) (hj:j<6):(cellsN c n)[i*6+j]?=some (c i j):=by
 unfold cellsN
 rw [flatMap_at (fun i=>[c i 0,c i 1,c i 2,c i 3,c i 4,c i 5]) 6 (fun _=>rfl) (List.range n) i j i (by rw [List.getElem?_range hi]) hj]
 have:j=0∨j=1∨j=2∨j=3∨j=4∨j=5:=by omega
 rcases this with rfl | rfl | rfl | rfl | rfl | rfl<;>rfl
def addC (c:Nat→Nat→Value) (n:Nat) (v0 v1 v2 v3 v4 v5:Value):Nat→Nat→Value:=fun i j=>if i=n then (match j with | 0=>v0 | 1=>v1 | 2=>v2 | 3=>v3 | 4=>v4 | _=>v5) else c i j
theorem fm_congr {α β:Type} (f g:α→List β):∀(L:List α),(∀i∈L,f i=g i)→L.flatMap f=L.flatMap g
 | [],_=>rfl
 | x::xs,h=>by rw [List.flatMap_cons,List.flatMap_cons,h x (by simp),fm_congr f g xs fun i hi=>h i (by simp [hi])]
theorem cellsN_add (c:Nat→Nat→Value) (n:Nat) (v0 v1 v2 v3 v4 v5:Value):cellsN (addC c n v0 v1 v2 v3 v4 v5) (n+1)=cellsN c n++[v0,v1,v2,v3,v4,v5]:=by
 unfold cellsN
 rw [List.range_succ,List.flatMap_append]
 congr 1
 ·refine fm_congr _ _ _ fun i hi=>?_
  have:=List.mem_range.1 hi
  simp [addC,Nat.ne_of_lt this]
 ·simp [addC]
def Lr (w0:World) (B:Nat) (v:Value) (b:Nat):Prop:=New w0 b∧b≠B∧v.ownBlock≠some b
structure NdRow (w0 w:World) (B:Nat) (c:Nat→Nat→Value) (v:Value) (ms:List Nd):Prop where
 row:w.ownsRow 0 34 6 v ms.length (cellsN c ms.length)
 nd:∀i m,ms[i]?=some m→NdV w (Lr w0 B v) m (.agg #[c i 0,c i 1,c i 2,c i 3,c i 4,c i 5])
 own:∀g,v.ownBlock=some g→w0.heap.size≤g∧g≠B
theorem NdRow.upto {w0 w w':World} {S:List Nat} {B:Nat} {c:Nat→Nat→Value} {v:Value} {ms:List Nd} (h:NdRow w0 w B c v ms) (hu:Upto S w w') (hS:∀k∈S,k<w0.heap.size∨k=B):NdRow w0 w' B c v ms :=
 ⟨kIx h.row hu (fun g hg hm=>by have h1:=h.own g hg;rcases hS g hm with h2 | h2<;>omega),
  fun i m hi=>(h.nd i m hi).upto hu (fun b hb _ hm=>by have h1:=hb.1;unfold New at h1;rcases hS b hm with h2 | h2;omega;exact hb.2.1 h2),h.own⟩
theorem six_at {w:World} {g:Nat} {v0 v1 v2 v3 v4 v5:Value} {t:TypeId} {z:Nat×Nat} (h:w.heap[g]?=some (.cells #[v0,v1,v2,v3,v4,v5] t z)):∀(j:Nat) u,[v0,v1,v2,v3,v4,v5][j]?=some u→w.cell? ((⟨g,0,none⟩:Addr).add j)=some u:=by
 intro j u hj
 rw [Addr.add_lit,Nat.zero_add,kAz h]
 simpa using hj
theorem row_six {w:World} {g:Nat} {v0 v1 v2 v3 v4 v5:Value} (h:w.heap[g]?=some (.cells #[v0,v1,v2,v3,v4,v5] 34 (0,0))):w.ownsRow 0 34 6 (.slice (some ⟨g,0,none⟩) 1 1) 1 [v0,v1,v2,v3,v4,v5] :=
 ⟨rfl,Or.inr ⟨g,1,_,rfl,Nat.zero_le _,h,Nat.le_refl _,by unfold maxLen;omega,rfl,rfl⟩⟩
theorem NdRow.one {w0 w:World} {B g:Nat} {m:Nd} {v0 v1 v2 v3 v4 v5:Value} (h:w.heap[g]?=some (.cells #[v0,v1,v2,v3,v4,v5] 34 (0,0))) (hm:NdV w (fun b=>New w0 b∧b≠B∧b≠g) m (.agg #[v0,v1,v2,v3,v4,v5])) (hg:w0.heap.size≤g∧g≠B) :
  NdRow w0 w B (addC (fun _ _=>undef) 0 v0 v1 v2 v3 v4 v5) (.slice (some ⟨g,0,none⟩) 1 1) [m]:=by
 refine⟨?_,?_,?_⟩
 ·have:=cellsN_add (fun _ _=>undef) 0 v0 v1 v2 v3 v4 v5
  rw [List.length_singleton,this]
  exact row_six h
 ·intro i x hi
  match i,hi with
  | 0,hi =>
   simp at hi
   subst hi
   exact hm.mono fun b hb _=>⟨hb.1,hb.2.1,by simp [Value.ownBlock];exact fun e=>hb.2.2 e.symm⟩
 ·intro g' hg'
  simp [Value.ownBlock] at hg'
  subst hg'
  exact hg
theorem NdRow.app {w0 w w5:World} {B:Nat} {c:Nat→Nat→Value} {v:Value} {ms:List Nd} {m:Nd} {v0 v1 v2 v3 v4 v5:Value} {b':Option Addr} {c':Nat} (h:NdRow w0 w B c v ms) (hsz:w0.heap.size≤w.heap.size) (hBw:B<w.heap.size)
  (hm:NdV w (Lr w0 B v) m (.agg #[v0,v1,v2,v3,v4,v5])) (ho:w5.ownsRow 0 34 6 (.slice b' (ms.length+1) c') (ms.length+1) (cellsN c ms.length++[v0,v1,v2,v3,v4,v5])) (hu:Upto v.ownBlock.toList w w5)
  (hw:∀g,(Value.slice b' (ms.length+1) c').ownBlock=some g→v.ownBlock=some g∨w.heap.size≤g):NdRow w0 w5 B (addC c ms.length v0 v1 v2 v3 v4 v5) (.slice b' (ms.length+1) c') (ms++[m]):=by
 have key:∀x u,NdV w (Lr w0 B v) x u→NdV w5 (Lr w0 B (.slice b' (ms.length+1) c')) x u:=fun x u hx =>
  NdV.keep ⟨hu.size,fun b hb hl=>⟨⟨hb.1,hb.2.1,fun e=>by
   rcases hw b e with h1 | h1
   ·exact hb.2.2 h1
   ·have:=hl.lt;omega⟩,hu.block b hl.lt (fun hmm=>hb.2.2 (Option.mem_toList.1 hmm))⟩⟩ x u hx
 refine⟨?_,?_,?_⟩
 ·rw [List.length_append,List.length_singleton,cellsN_add]
  exact ho
 ·intro i x hi
  by_cases hlt:i<ms.length
  ·rw [List.getElem?_append_left hlt] at hi
   have:=key _ _ (h.nd i x hi)
   simpa [addC,Nat.ne_of_lt hlt] using this
  ·rw [List.getElem?_append_right (by omega)] at hi
   cases hd:i-ms.length with
   | zero =>
    rw [hd] at hi
    simp at hi
    subst hi
    have:i=ms.length:=by omega
    subst this
    simpa [addC] using key _ _ hm
   | succ z=>rw [hd] at hi;simp at hi
 ·intro g hg
  rcases hw g hg with h1 | h1
  ·exact h.own g h1
  ·exact⟨by omega,by omega⟩
theorem NdRow.cells {w0 w:World} {B:Nat} {c:Nat→Nat→Value} {v:Value} {ms:List Nd} (h:NdRow w0 w B c v ms) (hne:ms≠[]):∃g cap,v=.slice (some ⟨g,0,none⟩) ms.length cap∧ms.length≤cap∧g<w.heap.size∧∀i j,i<ms.length→j<6→w.cell? ⟨g,0+i*6+j,none⟩=some (c i j):=by
 rcases h.row.2 with⟨-,h0⟩ | ⟨g,cap,cur,rfl,_,hh,h1,_,_,ht⟩
 ·exact absurd (List.eq_nil_of_length_eq_zero h0) hne
 ·refine⟨g,cap,rfl,h1,kAk hh,fun i j hi hj=>?_⟩
  rw [kAz hh]
  have:=cellsN_at c hi hj
  rw [←ht,List.getElem?_take] at this
  split at this
  ·simpa using this
  ·cases this
theorem info59:(Tryz.prog.info? 34).map (fun i=>(i.zero,i.size,i.bytes))=some (some (.agg #[.int .i64 0,.slice none 0 0,.int .i64 0,.int .i64 0,.int .i64 0,.slice none 0 0]),6,80):=by kernel_rfl
theorem info59':∃i,Tryz.prog.info? 34=some i∧i.zero=some (.agg #[.int .i64 0,.slice none 0 0,.int .i64 0,.int .i64 0,.int .i64 0,.slice none 0 0])∧i.size=6∧i.bytes=80:=by
 have h:=info59
 cases hi:Tryz.prog.info? 34 with
 | none=>rw [hi] at h;cases h
 | some i =>
  rw [hi] at h
  simp only [Option.map_some,Option.some.injEq,Prod.mk.injEq] at h
  exact⟨i,rfl,h.1,h.2.1,h.2.2⟩
def ImpI (w:World) (p:Nat) (l:List Tok) (of:Rd) (s s':PS) (a:List Nd) (v:Value) (wr:World):Prop :=
 ∃k ms t c,kJq l (orsP l of) k ms t=some (a,s')∧RdAt wr p l t∧Upto [p] w wr∧Adv l s t∧wr.heap[w.heap.size]?=some (.cells #[.int .i64 0,.slice none 0 0,.int .i64 0,.int .i64 0,.int .i64 0,.slice none 0 0] 34 (0,0))∧NdRow w wr w.heap.size c v ms∧ms≠[]∧ms.length≤t.nx+1
attribute [local go_sem] Oper.semAt_some
structure ImB (w:World) (p B Bn Bs:Nat) (l:List Tok) (t:PS) (ms:List Nd) (c:Nat→Nat→Value) (sl:Value) (ok:Prop) (k:Nat) (W:World):Prop where
 rd:RdAt W p l t
 up:Upto [p] w W
 z:W.heap[B]?=some (.cells #[.int .i64 0,.slice none 0 0,.int .i64 0,.int .i64 0,.int .i64 0,.slice none 0 0] 34 (0,0))
 bs:W.heap[Bs]?=some (.cells #[sl] 32 (0,0))
 nd:∀i m,ms[i]?=some m→NdV W (Lo w B Bn) m (.agg #[c i 0,c i 1,c i 2,c i 3,c i 4,c i 5])
 acc:∃(oa:Int) (na1:Option Addr) (na2 na3:Nat) (sa ma qa:Int) (la1:Option Addr) (la2 la3:Nat),W.heap[Bn]?=some (.cells #[.int .i64 oa,.slice na1 na2 na3,.int .i64 sa,.int .i64 ma,.int .i64 qa,.slice la1 la2 la3] 34 (0,0))∧(ok→NdV W (Lo w B Bn) (kJz (ms.drop k)) (.agg #[.int .i64 oa,.slice na1 na2 na3,.int .i64 sa,.int .i64 ma,.int .i64 qa,.slice la1 la2 la3]))
theorem keep_grown {W W':World} {row:Option Nat} (hg:W.grownBy W' row) (hr:∀r,row=some r→∃o:Obj,W.heap[r]?=some o∧o.isCells=false) (P:Nat→Prop):Keep W W' P P :=
 ⟨hg.size,fun b hb hl=>⟨hb,hg.block b hl.lt (fun e=>by
  obtain⟨cs,t,z,h⟩:=hl
  obtain⟨o,ho,hc⟩:=hr b (by first | exact e | exact e.symm)
  rw [h] at ho
  cases ho
  cases hc)⟩⟩
theorem ImB.grown {w:World} {p B Bn Bs:Nat} {l:List Tok} {t:PS} {ms:List Nd} {c:Nat→Nat→Value} {sl:Value} {ok:Prop} {k b0:Nat} {W W':World} {row:Option Nat} (h:ImB w p B Bn Bs l t ms c sl ok k W) (hb:p<b0∧w.heap.size≤b0) (hg:W.grownBy W' row)
  (hr:∀r,row=some r→b0≤r∧∃o:Obj,W.heap[r]?=some o∧o.isCells=false):ImB w p B Bn Bs l t ms c sl ok k W':=by
 have hr2:=fun r e=>(hr r e).2
 have hu:Upto row.toList W W':=(Upto.refl _ W).grown hg (fun k e=>Or.inl (by rw [e];simp))
 have kc:=fun (b:Nat) (cs:Array Value) (T:TypeId) (z:Nat×Nat) (h:W.heap[b]?=some (.cells cs T z))=>(grownBy_keeps_cells hg hr2 h rfl).trans h
 refine⟨h.rd.above hu (fun k hk=>?_),h.up.grown hg (fun k e=>Or.inr ?_),kc _ _ _ _ h.z,kc _ _ _ _ h.bs,fun i m hi=>NdV.keep (keep_grown hg hr2 _) _ _ (h.nd i m hi),?_⟩
 ·have:=(hr k (Option.mem_toList.1 hk)).1;omega
 ·have:=(hr k e).1;omega
 ·obtain⟨oa,na1,na2,na3,sa,ma,qa,la1,la2,la3,h1,h2⟩:=h.acc
  exact⟨oa,na1,na2,na3,sa,ma,qa,la1,la2,la3,kc _ _ _ _ h1,fun hk=>NdV.keep (keep_grown hg hr2 _) _ _ (h2 hk)⟩
theorem ImB.ext {w:World} {p B Bn Bs:Nat} {l:List Tok} {t:PS} {ms:List Nd} {c:Nat→Nat→Value} {sl:Value} {ok:Prop} {k:Nat} {W W':World} (h:ImB w p B Bn Bs l t ms c sl ok k W) (hu:Upto [] W W'):ImB w p B Bn Bs l t ms c sl ok k W':=by
 obtain⟨oa,na1,na2,na3,sa,ma,qa,la1,la2,la3,h1,h2⟩:=h.acc
 exact⟨h.rd.ext hu,h.up.trans_ext hu,hu.at h.z (by simp),hu.at h.bs (by simp),fun i m hi=>(h.nd i m hi).ext hu,oa,na1,na2,na3,sa,ma,qa,la1,la2,la3,hu.at h1 (by simp),fun hk=>(h2 hk).ext hu⟩
theorem ImB.at {w:World} {p B Bn Bs:Nat} {l:List Tok} {t:PS} {ms:List Nd} {c:Nat→Nat→Value} {sl:Value} {ok:Prop} {k k':Nat} {W:World} (h:ImB w p B Bn Bs l t ms c sl ok k W) (hk:ok→k=k'):ImB w p B Bn Bs l t ms c sl ok k' W:=by
 obtain⟨oa,na1,na2,na3,sa,ma,qa,la1,la2,la3,h1,h2⟩:=h.acc
 exact⟨h.rd,h.up,h.z,h.bs,h.nd,oa,na1,na2,na3,sa,ma,qa,la1,la2,la3,h1,fun ho=>by rw [←hk ho];exact h2 ho⟩
theorem implFold_step (ms:List Nd) (q:Nat) (m:Nd) (h:ms[q]?=some m) (hl:q+1<ms.length):kJz (ms.drop q)=.mk 14 [] 0 0 0 [m,kJz (ms.drop (q+1))]:=by
 obtain⟨h1,rfl⟩:=List.getElem?_eq_some_iff.1 h
 rw [List.drop_eq_getElem_cons h1]
 cases hd:ms.drop (q+1) with
 | nil=>have:=congrArg List.length hd;simp at this;omega
 | cons y ys=>rfl
theorem ImB.next {w:World} {p B Bn Bs:Nat} {l:List Tok} {t:PS} {ms:List Nd} {c:Nat→Nat→Value} {sl:Value} {ok ok2:Prop} {k q:Nat} {m:Nd} {W:World} (h:ImB w p B Bn Bs l t ms c sl ok k W) (hB:w.heap.size=B) (hp:p<B) (hBn:B<Bn) (hsn:Bs≠Bn)
  (hq:ms[q]?=some m) (hok:ok2→ok∧k=q+1∧q+1<ms.length) {x0 x1 x2 x3 x4 x5:Value} (hx:x0=c q 0∧x1=c q 1∧x2=c q 2∧x3=c q 3∧x4=c q 4∧x5=c q 5) {oa:Int} {na1:Option Addr} {na2 na3:Nat} {sa ma qa:Int} {la1:Option Addr} {la2 la3:Nat} (hn:W.heap[Bn]?=some (.cells #[.int .i64 oa,.slice na1 na2 na3,.int .i64 sa,.int .i64 ma,.int .i64 qa,.slice la1 la2 la3] 34 (0,0))) (ha:ok→NdV W (Lo w B Bn) (kJz (ms.drop k)) (.agg #[.int .i64 oa,.slice na1 na2 na3,.int .i64 sa,.int .i64 ma,.int .i64 qa,.slice la1 la2 la3])) :
  ImB w p B Bn Bs l t ms c sl ok2 q ((((((((W.alloc (.cells #[x0,x1,x2,x3,x4,x5,.int .i64 oa,.slice na1 na2 na3,.int .i64 sa,.int .i64 ma,.int .i64 qa,.slice la1 la2 la3] 34)).setCell ⟨Bn,0,none⟩ (.int .i64 14)).setCell ⟨Bn,1,none⟩ (.slice none 0 0)).setCell ⟨Bn,2,none⟩ (.int .i64 0)).setCell ⟨Bn,3,none⟩ (.int .i64 0)).setCell ⟨Bn,4,none⟩ (.int .i64 0)).setCell ⟨Bn,5,none⟩ (.slice (some ⟨W.heap.size,0,none⟩) 2 2))) ∧
  Upto [Bn] W ((((((((W.alloc (.cells #[x0,x1,x2,x3,x4,x5,.int .i64 oa,.slice na1 na2 na3,.int .i64 sa,.int .i64 ma,.int .i64 qa,.slice la1 la2 la3] 34)).setCell ⟨Bn,0,none⟩ (.int .i64 14)).setCell ⟨Bn,1,none⟩ (.slice none 0 0)).setCell ⟨Bn,2,none⟩ (.int .i64 0)).setCell ⟨Bn,3,none⟩ (.int .i64 0)).setCell ⟨Bn,4,none⟩ (.int .i64 0)).setCell ⟨Bn,5,none⟩ (.slice (some ⟨W.heap.size,0,none⟩) 2 2))):=by
 obtain⟨rfl,rfl,rfl,rfl,rfl,rfl⟩:=hx
 have hua:Upto [] W (W.alloc (.cells #[c q 0,c q 1,c q 2,c q 3,c q 4,c q 5,.int .i64 oa,.slice na1 na2 na3,.int .i64 sa,.int .i64 ma,.int .i64 qa,.slice la1 la2 la3] 34)):=(Upto.refl [] W).alloc _
 have hlt:=kAk hn
 have hnew:=kAq W (.cells #[c q 0,c q 1,c q 2,c q 3,c q 4,c q 5,.int .i64 oa,.slice na1 na2 na3,.int .i64 sa,.int .i64 ma,.int .i64 qa,.slice la1 la2 la3] 34)
 have hus:=h.up.size
 have hg:Lo w B Bn W.heap.size:=⟨hus,by omega,by omega⟩
 have hnA:=hua.at hn (by simp)
 have hst:=nd_self (W.alloc (.cells #[c q 0,c q 1,c q 2,c q 3,c q 4,c q 5,.int .i64 oa,.slice na1 na2 na3,.int .i64 sa,.int .i64 ma,.int .i64 qa,.slice la1 la2 la3] 34)) Bn (.int .i64 14) (.slice none 0 0) (.int .i64 0) (.int .i64 0) (.int .i64 0) (.slice (some ⟨W.heap.size,0,none⟩) 2 2)
 have hbn:=kEz hnA (.int .i64 14) (.slice none 0 0) (.int .i64 0) (.int .i64 0) (.int .i64 0) (.slice (some ⟨W.heap.size,0,none⟩) 2 2)
 refine⟨⟨(h.rd.ext hua).above hst (fun k hk=>by simp at hk;omega),nd_up (h.up.trans_ext hua) (Or.inr (by omega)) ..,hst.at (hua.at h.z (by simp)) (by simp;omega),hst.at (hua.at h.bs (by simp)) (by simpa using hsn),fun i x hi=>((h.nd i x hi).ext hua).upto hst (fun b hb _=>by simp;exact hb.2.2),14,none,0,0,0,0,0,_,2,2,hbn,fun hk2=>?_⟩,(hua.mono (by simp)).trans_same hst⟩
 obtain⟨hk,rfl,hl⟩:=hok hk2
 rw [implFold_step ms q m hq hl]
 exact (NdV.two (op:=14) (so:=0) (names:=[]) SlP.nil ((h.nd q m hq).ext hua) ((ha hk).ext hua) hg hnew).upto hst (fun b hb _=>by simp;exact hb.2.2)
theorem kMk.put {w W W':World} {p D:Nat} {l:List Tok} {s s':PS} {n:Nd} {e:Ending} (h:kMk w p l s n s' e W) (hu:Upto [D] W W') (hD:p<D∧w.heap.size≤D) (hc:¬IsC W D):kMk w p l s n s' e W':=by
 obtain⟨v,he,hn,hR,hup,ha⟩:=h
 exact⟨v,he,hn.upto hu (fun b _ hl=>by simp;rintro rfl;exact hc hl),hR.above hu (fun k hk=>by simp at hk;omega),hup.trans hu (fun k hk=>Or.inr (by simp at hk;omega)),ha⟩
theorem Down.snoc {r:Nat} {pre:List (Ix r)} {x:Ix r} (h:Down (pre++[x])):Down pre∧x.1+pre.length+1=r:=by
 refine⟨⟨by have:=h.1;simp at this;omega,fun j y hy=>h.2 j y ?_⟩,?_⟩
 ·rw [List.getElem?_append_left (List.getElem?_eq_some_iff.1 hy).1];exact hy
 ·exact h.2 pre.length x (by simp)
theorem implies_calls (w:World) (p:Nat) (l:List Tok) (s s':PS) (n:Nd) (of:Rd) (hx:Cx w p l) (h:RdAt w p l s) (hd:s.dp≤256) (hop:Rdr w p l 147 #[.pointer (some ⟨p,0,none⟩)] of) (he:kMj l of s=some (n,s')) :
  Calls Tryz.prog 92 #[.pointer (some ⟨p,0,none⟩)] w (kMk w p l s n s'):=by
 have HpB:Hid (p<w.heap.size):=Lib.hid h.lt
 have hu0:Upto [] w (w.alloc (.cells #[.int .i64 0,.slice none 0 0,.int .i64 0,.int .i64 0,.int .i64 0,.slice none 0 0] 34)):=(Upto.refl [] w).alloc _
 have HR0:=Lib.hid (h.ext hu0)
 have HX0:=Lib.hid (hx.ext hu0)
 have HU0:Hid (Upto [p] w (w.alloc (.cells #[.int .i64 0,.slice none 0 0,.int .i64 0,.int .i64 0,.int .i64 0,.slice none 0 0] 34))):=Lib.hid (hu0.mono (by simp))
 have HNew:Hid ((w.alloc (.cells #[.int .i64 0,.slice none 0 0,.int .i64 0,.int .i64 0,.int .i64 0,.slice none 0 0] 34)).heap[w.heap.size]?=some (.cells #[.int .i64 0,.slice none 0 0,.int .i64 0,.int .i64 0,.int .i64 0,.slice none 0 0] 34 (0,0))):=Lib.hid (kAq _ _)
 have hlen:=hx.len
 have hin:=h.inb
 have HF:Hid (Fin l):=Lib.hid h.fin
 have HOP:=Lib.hid (hop.upto HU0.out)
 have HV:Hid (∃m t a,orsP l of s=some (m,t)∧kJq l (orsP l of) (l.length+1) [m] t=some (a,s')∧n=kJz a):=Lib.hid (by
  unfold kMj at he
  cases hq:orsP l of s with
  | none=>rw [hq] at he;cases he
  | some r =>
   obtain⟨m,t⟩:=r
   rw [hq] at he
   simp only [Option.bind_some] at he
   cases hz:kJq l (orsP l of) (l.length+1) [m] t with
   | none=>rw [hz] at he;cases he
   | some r2 =>
    obtain⟨a,t2⟩:=r2
    rw [hz] at he
    simp at he
    obtain⟨rfl,rfl⟩:=he
    exact⟨m,t,a,rfl,hz,rfl⟩)
 obtain⟨m0,t0,a,hv1,hv2,rfl⟩:=HV.out
 have HO:=Lib.hid (fun w1 (hu:Upto [p] w w1) s1 n1 s2 (hR:RdAt w1 p l s1) (hd1:s1.dp≤256) (he1:orsP l of s1=some (n1,s2))=>ors_calls w1 p l s1 s2 n1 of (hx.upto hu) hR hd1 (hop.upto hu) he1)
 have HV1:=Lib.hid hv1
 have HV2:=Lib.hid hv2
 clear hx h he hu0 hop HV hv1 hv2
 refine (callsIn_wide (n:=5)).1 ?_
 refine callsIn_of_wp_marks Tryz.func92 rfl trivial (wpIn_wide.2 ?_) rfl
 simp only [Tryz.ntmps92,List.size_toArray,List.length_cons,List.length_nil,Nat.reduceAdd,Nat.reduceSub,Array.replicate_succ,Array.replicate_zero,List.push_toArray,List.append_toArray,List.nil_append,List.cons_append]
 go_wp2_with fail
 refine (HO.out _ HU0.out s m0 t0 HR0.out hd HV1.out).mono ?_
 rintro e w2 ⟨vv,rfl,hn,hR2,hu2,ha⟩
 obtain⟨oa,na1,na2,na3,sa,ma,qa,la1,la2,la3,rfl⟩:=hn.six
 have hua:=(Upto.refl [] w2).alloc (.cells #[.int .i64 oa,.slice na1 na2 na3,.int .i64 sa,.int .i64 ma,.int .i64 qa,.slice la1 la2 la3] 34)
 have hgn:(w2.alloc (.cells #[.int .i64 oa,.slice na1 na2 na3,.int .i64 sa,.int .i64 ma,.int .i64 qa,.slice la1 la2 la3] 34)).heap[w2.heap.size]?=some (.cells #[.int .i64 oa,.slice na1 na2 na3,.int .i64 sa,.int .i64 ma,.int .i64 qa,.slice la1 la2 la3] 34 (0,0)):=kAq _ _
 have HS2:Hid (w.heap.size<w2.heap.size):=Lib.hid (Nat.lt_of_lt_of_le (kAk HNew.out) hu2.size)
 have HI0:Hid (ImpI w p l of s s' a (.slice (some ⟨w2.heap.size,0,none⟩) 1 1) (w2.alloc (.cells #[.int .i64 oa,.slice na1 na2 na3,.int .i64 sa,.int .i64 ma,.int .i64 qa,.slice la1 la2 la3] 34))):=Lib.hid ⟨_,_,_,_,HV2.out,hR2.ext hua,(HU0.out.trans_same hu2).trans_ext hua,ha,hua.at (hu2.at HNew.out (by have:=HpB.out;simp;omega)) (by simp),
  NdRow.one hgn ((hn.mono (fun b hb hl=>⟨by have h1:=HU0.out.size;unfold New at hb ⊢;omega,by have h1:=kAk HNew.out;unfold New at hb;omega,by have:=hl.lt;omega⟩)).ext hua) ⟨by have:=HS2.out;omega,by have:=HS2.out;omega⟩,by simp,by simp⟩
 clear hn hR2 hu2 ha hua hgn HS2
 obtain⟨i0,hi0,hz0,hz1,hz2⟩:=info59'
 go_wp2_with fail
 go_loopw [3] (fun v wr=>Hid (ImpI w p l of s s' a v wr)) (fun _ wr=>l.length-nxOf wr p)
 case atStart=>exact HI0
 case round =>
  obtain⟨k,ms,t,c,hl,hR,hu,ha,hz,hrow,hne,hlm⟩:=hrel.out
  obtain⟨g,cap,rfl,hcap,hgl,hcell⟩:=hrow.cells hne
  have HI:=Lib.hid (And.intro hR (And.intro hu (And.intro ha (And.intro hz hrow))))
  have HC:=Lib.hid (kEj wr p l t [105,109,112,108,105,101,115] hR hlen)
  have HNX:=Lib.hid hR.nx
  have hml:ms.length≤1000001:=by have:=hR.inb;omega
  have HML:=Lib.hid hlm
  clear hrel HI0
  cases k with
  | zero=>unfold kJq at hl;cases hl
  | succ k =>
  unfold kJq at hl
  cases hv:isF l [105,109,112,108,105,101,115] t with
  | true =>
   rw [hv] at HC hl
   have HT:Hid ((kDz l [105,109,112,108,105,101,115] t).2=kBx t):=Lib.hid (by unfold kDz;rw [if_pos hv])
   have HV3:Hid (∃m4 t4,orsP l of (kBx t)=some (m4,t4)∧kJq l (orsP l of) k (ms++[m4]) t4=some (a,s')):=Lib.hid (by
    simp only [if_true] at hl
    cases hq:orsP l of (kBx t) with
    | none=>rw [hq] at hl;cases hl
    | some r=>obtain⟨m4,t4⟩:=r;rw [hq] at hl;exact⟨m4,t4,rfl,hl⟩)
   have HK:=Lib.hid (kRx hv)
   clear hR hu ha hz hrow hl hv hcell
   go_wp2_with fail
   refine HC.out.mono ?_
   rintro e w3 ⟨rfl,hR3,hu3⟩
   rw [HT.out] at hR3
   have HR3:=Lib.hid hR3
   have HU3:=Lib.hid hu3
   have HROW3:=Lib.hid (HI.out.2.2.2.2.upto hu3 (fun k hk=>by simp at hk;have:=HpB.out;omega))
   clear hR3 hu3
   obtain⟨m4,t4,he4,hl4⟩:=HV3.out
   have HL4:=Lib.hid hl4
   have HE4:=Lib.hid he4
   clear he4 hl4
   have HUW:Hid (Upto [p] w w3):=Lib.hid (HI.out.2.1.trans_same HU3.out)
   go_wp2_with (first
    | (refine (HO.out w3 HUW.out (kBx t) m4 t4 HR3.out (by have:=HI.out.2.2.1.dp;show t.dp≤256;omega) HE4.out).mono ?_
       rintro e w4 ⟨v4,rfl,hn4,hR4,hu4,ha4⟩
       obtain⟨ob,nb1,nb2,nb3,sb,mb,qb,lb1,lb2,lb3,rfl⟩:=hn4.six
       have HN4:=Lib.hid hn4
       have HR4:=Lib.hid hR4
       have HU4:=Lib.hid hu4
       have HA4:=Lib.hid ha4
       have HROW4:=Lib.hid (HROW3.out.upto hu4 (fun k hk=>by simp at hk;have:=HpB.out;omega))
       clear hn4 hR4 hu4 ha4)
    | (at_builtin
       refine kHk _ rfl (.tmp 12) (.tmp 15) 32 rfl 34 i0 (.agg #[.int .i64 0,.slice none 0 0,.int .i64 0,.int .i64 0,.int .i64 0,.slice none 0 0]) 6 80 Tryz.underlying32 hi0 hz0 hz1 hz2 rfl (by decide) (.slice (some ⟨g,0,none⟩) ms.length cap) ms.length (cellsN c ms.length) rfl (HROW4.out.row.alloc _) ⟨w4.heap.size,0,none⟩ 1 1 [.int .i64 ob,.slice nb1 nb2 nb3,.int .i64 sb,.int .i64 mb,.int .i64 qb,.slice lb1 lb2 lb3] rfl rfl (six_at (kAq _ _)) (by simp [Value.oneCell']) (by unfold maxLen;omega) (by omega) ?_
       intro b5 c5 w5 ho5 hu5 hw5))
   have hg3:g<w3.heap.size:=Nat.lt_of_lt_of_le hgl HU3.out.size
   have hua:=(Upto.refl [] w4).alloc (.cells #[.int .i64 ob,.slice nb1 nb2 nb3,.int .i64 sb,.int .i64 mb,.int .i64 qb,.slice lb1 lb2 lb3] 34)
   have hown:=HROW4.out.own g rfl
   have hsz4:=(HUW.out.trans_same HU4.out).size
   have hz4:=HU4.out.at (HU3.out.at HI.out.2.2.2.1 (by have:=HpB.out;simp;omega)) (by have:=HpB.out;simp;omega)
   have hp:=HpB.out
   have hu5g:Upto [g] (w4.alloc (.cells #[.int .i64 ob,.slice nb1 nb2 nb3,.int .i64 sb,.int .i64 mb,.int .i64 qb,.slice lb1 lb2 lb3] 34)) w5:=hu5
   have hR5:=(HR4.out.ext hua).above hu5g (fun k hk=>by simp at hk;omega)
   have hrow5:=NdRow.app (HROW4.out.upto hua (by simp)) (by simp;omega) (by have:=kAk hz4;simp;omega) ((HN4.out.mono (fun b hb hl=>⟨by have:=HUW.out.size;unfold New at hb ⊢;omega,by have:=kAk (HU3.out.at HI.out.2.2.2.1 (by simp;omega));unfold New at hb;omega,by unfold New at hb;simp [Value.ownBlock];omega⟩)).ext hua) ho5 hu5 hw5
   have a5:=Adv.step HF.out HI.out.1.inb HK.out
   refine⟨Lib.hid ⟨k,ms++[m4],t4,_,HL4.out,hR5,((HUW.out.trans_same HU4.out).trans_ext hua).trans hu5g (fun k hk=>Or.inr (by simp at hk;omega)),HI.out.2.2.1.trans (a5.trans HA4.out),hu5g.at (hua.at hz4 (by simp)) (by simp;omega),hrow5,by simp,?_⟩,?_⟩
   ·have h1:=HML.out
    have h2:=HA4.out.le
    have h3:(kBx t).nx=t.nx+1:=rfl
    simp
    omega
   ·have h1:=HNX.out
    have h2:=HA4.out.le
    have h3:(kBx t).nx=t.nx+1:=rfl
    have h4:=HA4.out.lt
    rw [hR5.nx,h1]
    omega
  | false =>
   rw [hv] at HC hl
   have HT:Hid ((kDz l [105,109,112,108,105,101,115] t).2=t):=Lib.hid (by unfold kDz;rw [hv];rfl)
   simp at hl
   obtain⟨rfl,rfl⟩:=hl
   clear hR hu ha hz hrow hv
   go_wp2_with fail
   refine HC.out.mono ?_
   rintro e w3 ⟨rfl,hR3,hu3⟩
   rw [HT.out] at hR3
   have hg3:∀i j,i<ms.length→j<6→w3.cell? ⟨g,0+i*6+j,none⟩=some (c i j):=fun i j hi hj=>(hu3.cell (p:=⟨g,0+i*6+j,none⟩) hgl (by have:=(HI.out.2.2.2.2.own g rfl).1;have:=HpB.out;simp;omega)).trans (hcell i j hi hj)
   obtain⟨r,hr⟩:∃r,ms.length=r+1:=⟨ms.length-1,by have:=List.length_pos_iff.2 hne;omega⟩
   have HROW3:=Lib.hid (HI.out.2.2.2.2.upto hu3 (fun k hk=>by simp at hk;have:=HpB.out;omega))
   have HR3:=Lib.hid hR3
   have HU3:=Lib.hid (HI.out.2.1.trans_same hu3)
   have HZ3:=Lib.hid (hu3.at HI.out.2.2.2.1 (by have:=HpB.out;simp;omega))
   have HG3:=Lib.hid hg3
   have HLEN:=Lib.hid hr
   have HADV:=Lib.hid HI.out.2.2.1
   have HGL:=Lib.hid (Nat.lt_of_lt_of_le hgl hu3.size)
   have e0:=hg3 r 0 (by omega) (by decide)
   have e1:=hg3 r 1 (by omega) (by decide)
   have e2:=hg3 r 2 (by omega) (by decide)
   have e3:=hg3 r 3 (by omega) (by decide)
   have e4:=hg3 r 4 (by omega) (by decide)
   have e5:=hg3 r 5 (by omega) (by decide)
   simp only [Nat.zero_add,Nat.add_zero] at e0 e1 e2 e3 e4 e5
   obtain⟨ml,hml2⟩:∃x,ms[r]?=some x:=⟨_,List.getElem?_eq_getElem (by omega)⟩
   have hlast:=Lib.hid (HROW3.out.nd r ml hml2)
   have HML2:=Lib.hid hml2
   clear hml2
   have hrI:(r:Int)≤1000001:=by omega
   have hr0:(0:Int)≤r:=by omega
   have hcr:(r:Int)+1≤cap:=by omega
   rw [hr]
   have hi1:((r+1:Nat):Int)=(r:Int)+1:=by omega
   obtain⟨xo,xn1,xn2,xn3,xs1,xm,xq,xl1,xl2,xl3,hx6⟩:=hlast.out.six
   simp only [Value.agg.injEq,Array.mk.injEq,List.cons.injEq,and_true] at hx6
   obtain⟨y0,y1,y2,y3,y4,y5⟩:=hx6
   rw [y0] at e0
   rw [y1] at e1
   rw [y2] at e2
   rw [y3] at e3
   rw [y4] at e4
   rw [y5] at e5
   have HX6:=Lib.hid (And.intro y0 (And.intro y1 (And.intro y2 (And.intro y3 (And.intro y4 y5)))))
   clear hR3 hu3 hg3 hcell hr hlm hml HC y0 y1 y2 y3 y4 y5
   go_wp2_with fail
   refine ((callsIn_wide (n:=5)).1 (backn_in 5 _ _ _ _)).mono ?_
   clear e0 e1 e2 e3 e4 e5
   rintro e w4 ⟨rfl,rfl⟩
   have hG:=HG3.out
   have hgl3:=HGL.out
   have hpB:=HpB.out
   have hgB:=HROW3.out.own g rfl
   have hmlr:=HLEN.out
   have hx6:=HX6.out
   have hB3:=kAk HZ3.out
   have HS6:Hid (((w3.alloc (.cells #[.int .i64 xo,.slice xn1 xn2 xn3,.int .i64 xs1,.int .i64 xm,.int .i64 xq,.slice xl1 xl2 xl3] 34)).alloc (.cells #[.slice (some ⟨g,0,none⟩) r cap] 32)).heap.size=w3.heap.size+1+1):=Lib.hid (by simp)
   have HI6:Hid (ImB w p w.heap.size w3.heap.size (w3.heap.size+1) l t ms c (.slice (some ⟨g,0,none⟩) r cap) (Down ([]:List (Ix r))) r ((w3.alloc (.cells #[.int .i64 xo,.slice xn1 xn2 xn3,.int .i64 xs1,.int .i64 xm,.int .i64 xq,.slice xl1 xl2 xl3] 34)).alloc (.cells #[.slice (some ⟨g,0,none⟩) r cap] 32))):=Lib.hid (by
    have hua:=(Upto.refl [] w3).alloc (.cells #[.int .i64 xo,.slice xn1 xn2 xn3,.int .i64 xs1,.int .i64 xm,.int .i64 xq,.slice xl1 xl2 xl3] 34)
    have hub:=(Upto.refl [] (w3.alloc (.cells #[.int .i64 xo,.slice xn1 xn2 xn3,.int .i64 xs1,.int .i64 xm,.int .i64 xq,.slice xl1 xl2 xl3] 34))).alloc (.cells #[.slice (some ⟨g,0,none⟩) r cap] 32)
    have hnd:∀i m,ms[i]?=some m→NdV w3 (Lo w w.heap.size w3.heap.size) m (.agg #[c i 0,c i 1,c i 2,c i 3,c i 4,c i 5]):=fun i m hi=>(HROW3.out.nd i m hi).mono (fun b hb hl=>⟨hb.1,hb.2.1,by have:=hl.lt;omega⟩)
    refine⟨(HR3.out.ext hua).ext hub,(HU3.out.alloc _).alloc _,hub.at (hua.at HZ3.out (by simp)) (by simp),kFz _ _ _,fun i m hi=>((hnd i m hi).ext hua).ext hub,xo,xn1,xn2,xn3,xs1,xm,xq,xl1,xl2,xl3,hub.at (kAq _ _) (by simp),fun _=>?_⟩
    have hd:ms.drop r=[ml]:=by
     obtain⟨h1,h2⟩:=List.getElem?_eq_some_iff.1 HML2.out
     rw [List.drop_eq_getElem_cons h1,h2,List.drop_eq_nil_of_le (by omega)]
    rw [hd]
    have:=hnd r ml HML2.out
    rw [hx6.1,hx6.2.1,hx6.2.2.1,hx6.2.2.2.1,hx6.2.2.2.2.1,hx6.2.2.2.2.2] at this
    exact (this.ext hua).ext hub)
   have HC6:Hid (∀i j,i<r→j<6→((w3.alloc (.cells #[.int .i64 xo,.slice xn1 xn2 xn3,.int .i64 xs1,.int .i64 xm,.int .i64 xq,.slice xl1 xl2 xl3] 34)).alloc (.cells #[.slice (some ⟨g,0,none⟩) r cap] 32)).cell? ⟨g,0+i*6+j,none⟩=some (c i j)):=Lib.hid (fun i j hi hj=>(((Upto.refl [] w3).alloc _).alloc _).cell (p:=⟨g,0+i*6+j,none⟩) hgl3 (by simp) |>.trans (hG i j (by omega) hj))
   clear hG hx6
   go_wp2_with fail
   refine (wpIn_wide (n:=5)).1 ?_
   refine wpIn_rangeFunc_ownH (F:=Fence.wide) (n:=5) rfl (by omega) (gf:=148) (lb:=#[.pointer (some ⟨w3.heap.size+1,0,none⟩)]) rfl trivial (enters_of Tryz.func148 (by kernel_rfl) rfl)
    (back_stops (5-1) (by omega) (w3.heap.size+1) g 0 r cap (by omega) c ((w3.alloc (.cells #[.int .i64 xo,.slice xn1 xn2 xn3,.int .i64 xs1,.int .i64 xm,.int .i64 xq,.slice xl1 xl2 xl3] 34)).alloc (.cells #[.slice (some ⟨g,0,none⟩) r cap] 32)) (by simp;omega) (kFz _ _ _) HC6.out) (fun h k=>h.trans k)
    (fun W lx o o' hlx ho hc _=>fun b hb=>World.putObj_heap_other (by simp at hb hlx;omega)) (Below.refl _ _) (fun _=>rfl)
    (fun pre W=>ImB w p w.heap.size w3.heap.size (w3.heap.size+1) l t ms c (.slice (some ⟨g,0,none⟩) r cap) (Down pre) (r-pre.length) W) (fun _ _ _=>False)
    (fun pre W W' row hI hg hr=>hI.grown (b0:=w3.heap.size+1+1) ⟨by omega,by omega⟩ hg (fun rr e=>by have:=hr rr e;rw [HS6.out] at this;exact this))
    (fun _ _ _ _ _ hs _ _=>hs) HI6.out
    (fun x a' W=>∃Bx v30,a'={ tmps:=#[.pointer (some ⟨p,0,none⟩),undef,.pointer (some ⟨w.heap.size,0,none⟩),.slice (some ⟨g,0,none⟩) (r+1) cap,.pointer (some ⟨w3.heap.size,0,none⟩),undef,.pointer (some ⟨Bx,0,none⟩),.pointer (some ⟨p,0,none⟩),.agg #[.int .i64 oa,.slice na1 na2 na3,.int .i64 sa,.int .i64 ma,.int .i64 qa,.slice la1 la2 la3],.slice (some ⟨w2.heap.size,0,none⟩) 1 1,.pointer (some ⟨p,0,none⟩),.bool false,u12,u13,u14,u15,u16,.slice (some ⟨g,0,none⟩) (r+1) cap,.slice (some ⟨g,0,none⟩) (r+1) cap,.int .i64 ((r:Int)+1),.int .i64 r,.pointer (some ⟨g,r*6,none⟩),.agg #[.int .i64 xo,.slice xn1 xn2 xn3,.int .i64 xs1,.int .i64 xm,.int .i64 xq,.slice xl1 xl2 xl3],.slice (some ⟨g,0,none⟩) (r+1) cap,.slice (some ⟨g,0,none⟩) (r+1) cap,.int .i64 ((r:Int)+1),.int .i64 r,.slice (some ⟨g,0,none⟩) r cap,.func (.func 148) #[] #[.pointer (some ⟨w3.heap.size+1,0,none⟩)],.int .i64 x.1,v30,undef,undef,undef,undef,undef],defers:=[] }∧W.heap[Bx]?=some (.cells #[c x.1 0,c x.1 1,c x.1 2,c x.1 3,c x.1 4,c x.1 5] 34 (0,0)))
    (fun x a' _ W W' row hs hg hr=>by
     obtain⟨Bx,v30,h1,h2⟩:=hs
     exact⟨Bx,v30,h1,(grownBy_keeps_cells hg (fun rr e=>(hr rr e).2) h2 rfl).trans h2⟩) ?assign ?body ?done ?stop
   case assign =>
    intro lx pre x W K hI hK
    obtain⟨mx,hmx⟩:∃m,ms[x.1]?=some m:=⟨_,List.getElem?_eq_getElem (by have:=x.2;omega)⟩
    obtain⟨o',p1,p2,p3,s1,m1,q1,l1,l2,l3,hsix⟩:=(hI.nd _ _ hmx).six
    simp only [Value.agg.injEq,Array.mk.injEq,List.cons.injEq,and_true] at hsix
    obtain⟨z0,z1,z2,z3,z4,z5⟩:=hsix
    have HIW:=Lib.hid hI
    have HKW:=Lib.hid hK
    have HSX:=Lib.hid (And.intro z0 (And.intro z1 (And.intro z2 (And.intro z3 (And.intro z4 z5)))))
    unfold encsB
    rw [z0,z1,z2,z3,z4,z5]
    clear hI hK z0 z1 z2 z3 z4 z5
    gi_wp2
    have hu:Upto [] W (W.alloc (.cells #[.int .i64 o',.slice p1 p2 p3,.int .i64 s1,.int .i64 m1,.int .i64 q1,.slice l1 l2 l3] 34)):=(Upto.refl [] W).alloc _
    refine HKW.out _ _ ⟨hu.size,fun k o _ hk _=>hu.at hk (by simp)⟩ (fun b hb=>?_) (HIW.out.ext hu) ⟨_,_,rfl,?_⟩
    ·simp at hb
     rcases hb with rfl | rfl
     ·exact hu.block _ (kAk HIW.out.bs) (by simp)
     ·have h1:=HIW.out.acc
      exact hu.block _ (by have h2:=HIW.out.up.size;have h3:=kAk HIW.out.bs;omega) (by simp)
    ·obtain⟨z0,z1,z2,z3,z4,z5⟩:=HSX.out
     rw [z0,z1,z2,z3,z4,z5]
     exact kAq _ _
   case body =>
    rintro lx pre x a' W - - hI ⟨Bx,v30,rfl,hbx⟩ hlen
    obtain⟨mx,hmx⟩:∃m,ms[x.1]?=some m:=⟨_,List.getElem?_eq_getElem (by have:=x.2;omega)⟩
    obtain⟨o',p1,p2,p3,s1,m1,q1,l1,l2,l3,hsix⟩:=(hI.nd _ _ hmx).six
    simp only [Value.agg.injEq,Array.mk.injEq,List.cons.injEq,and_true] at hsix
    obtain⟨z0,z1,z2,z3,z4,z5⟩:=hsix
    obtain⟨ob,nb1,nb2,nb3,sb,mb,qb,lb1,lb2,lb3,hn,hacc⟩:=hI.acc
    have hz:(.int .i64 o'=c x.1 0∧.slice p1 p2 p3=c x.1 1∧.int .i64 s1=c x.1 2∧.int .i64 m1=c x.1 3∧.int .i64 q1=c x.1 4∧.slice l1 l2 l3=c x.1 5):=⟨z0.symm,z1.symm,z2.symm,z3.symm,z4.symm,z5.symm⟩
    rw [z0,z1,z2,z3,z4,z5] at hbx
    have hnx:=ImB.next (q:=x.1) (ok2:=Down (pre++[x])) hI rfl hpB hB3 (by omega) hmx (fun hd=>by have h1:=hd.snoc;exact⟨h1.1,by omega,by have:=x.2;omega⟩) hz hn hacc
    have hna:=((Upto.refl [] W).alloc (.cells #[.int .i64 o',.slice p1 p2 p3,.int .i64 s1,.int .i64 m1,.int .i64 q1,.slice l1 l2 l3,.int .i64 ob,.slice nb1 nb2 nb3,.int .i64 sb,.int .i64 mb,.int .i64 qb,.slice lb1 lb2 lb3] 34)).at hn (by simp)
    obtain⟨cc0,cc1,cc2,cc3,cc4,cc5⟩:=kAx hbx
    obtain⟨d0,d1,d2,d3,d4,d5⟩:=kDk hbx
    obtain⟨h0,h1,h2,h3,h4,h5⟩:=kAx hn
    obtain⟨i0,i1,i2,i3,i4,i5⟩:=kDk hn
    obtain⟨e0,e1,e2,e3,e4,e5⟩:=kAx hna
    obtain⟨f0,f1,f2,f3,f4,f5⟩:=kDk hna
    have HNX:=Lib.hid hnx
    have HNN:=Lib.hid hn
    have HIW:=Lib.hid hI
    have hlb:=kAk hI.bs
    have HLB:=Lib.hid hlb
    clear z0 z1 z2 z3 z4 z5 hz hnx hna hn hbx hacc hI hlb
    gi_wp2
    have hq:=HNX.out
    refine⟨⟨hq.2.size,fun k o _ hk ho=>hq.2.at hk (by simp;rintro rfl;have:=HNN.out;rw [hk] at this;cases this;cases ho)⟩,fun b hb=>?_,?_⟩
    ·simp at hb
     rcases hb with rfl | rfl
     ·exact hq.2.block _ HLB.out (by simp)
     ·exact hq.2.block _ (by have:=HLB.out;omega) (by simp;omega)
    ·refine hq.1.at (fun hd=>?_)
     have h1:=hd.snoc.2
     simp
     omega
   case done =>
    rintro D xs W hD ⟨hDn,hlen⟩ hI hK
    have hI0:=hI.at (k':=0) (fun _=>by omega)
    obtain⟨oa,na1,na2,na3,sa,ma,qa,la1,la2,la3,hn,hacc⟩:=hI0.acc
    have hz:=hI.z
    obtain⟨h0,h1,h2,h3,h4,h5⟩:=kAx hn
    obtain⟨i0,i1,i2,i3,i4,i5⟩:=kDk hn
    obtain⟨z0,z1,z2,z3,z4,z5⟩:=kAx hz
    obtain⟨y0,y1,y2,y3,y4,y5⟩:=kDk hz
    have hDs:w3.heap.size+1+1≤D:=by have:=HS6.out;omega
    have hst:=nd_self W w.heap.size (.int .i64 oa) (.slice na1 na2 na3) (.int .i64 sa) (.int .i64 ma) (.int .i64 qa) (.slice la1 la2 la3)
    have HD4:=Lib.hid (hst.at hK (by simp;omega))
    have HDN:=Lib.hid (show ¬IsC ((((((W.setCell ⟨w.heap.size,0,none⟩ (.int .i64 oa)).setCell ⟨w.heap.size,1,none⟩ (.slice na1 na2 na3)).setCell ⟨w.heap.size,2,none⟩ (.int .i64 sa)).setCell ⟨w.heap.size,3,none⟩ (.int .i64 ma)).setCell ⟨w.heap.size,4,none⟩ (.int .i64 qa)).setCell ⟨w.heap.size,5,none⟩ (.slice la1 la2 la3)) D from fun ⟨cs,t,z,h⟩=>by have:=hst.at hK (by simp;omega);rw [h] at this;cases this)
    have hs:=kEz hz (.int .i64 oa) (.slice na1 na2 na3) (.int .i64 sa) (.int .i64 ma) (.int .i64 qa) (.slice la1 la2 la3)
    have hs2:((((((((W.setCell ⟨w.heap.size,0,none⟩ (.int .i64 oa)).setCell ⟨w.heap.size,1,none⟩ (.slice na1 na2 na3)).setCell ⟨w.heap.size,2,none⟩ (.int .i64 sa)).setCell ⟨w.heap.size,3,none⟩ (.int .i64 ma)).setCell ⟨w.heap.size,4,none⟩ (.int .i64 qa)).setCell ⟨w.heap.size,5,none⟩ (.slice la1 la2 la3))).putObj D (.deferred none)).heap[w.heap.size]?=some (.cells #[.int .i64 oa,.slice na1 na2 na3,.int .i64 sa,.int .i64 ma,.int .i64 qa,.slice la1 la2 la3] 34 (0,0)):=(World.putObj_heap_other (by omega)).trans hs
    have HFIN:=Lib.hid (kEx (l:=l) (s:=s) (s':=t) (n:=kJz ms) (P:=Lo w w.heap.size w3.heap.size) (Nat.le_refl _) hpB hI.up hI.rd hz HADV.out (by have:=hacc hDn;simpa using this) (fun b hb _=>⟨hb.1,hb.2.1⟩))
    have HUD:Hid (Upto [D] ((((((W.setCell ⟨w.heap.size,0,none⟩ (.int .i64 oa)).setCell ⟨w.heap.size,1,none⟩ (.slice na1 na2 na3)).setCell ⟨w.heap.size,2,none⟩ (.int .i64 sa)).setCell ⟨w.heap.size,3,none⟩ (.int .i64 ma)).setCell ⟨w.heap.size,4,none⟩ (.int .i64 qa)).setCell ⟨w.heap.size,5,none⟩ (.slice la1 la2 la3)) ((((((((W.setCell ⟨w.heap.size,0,none⟩ (.int .i64 oa)).setCell ⟨w.heap.size,1,none⟩ (.slice na1 na2 na3)).setCell ⟨w.heap.size,2,none⟩ (.int .i64 sa)).setCell ⟨w.heap.size,3,none⟩ (.int .i64 ma)).setCell ⟨w.heap.size,4,none⟩ (.int .i64 qa)).setCell ⟨w.heap.size,5,none⟩ (.slice la1 la2 la3))).putObj D (.deferred none))):=Lib.hid ((Upto.refl [D] _).grown (grownBy_putObj' _ D _) (fun k e=>by cases e;simp))
    obtain⟨q0,q1,q2,q3,q4,q5⟩:=kAx hs2
    obtain⟨v0,v1,v2,v3,v4,v5⟩:=kDk hs2
    have HDS:=Lib.hid hDs
    clear hI hI0 hn hacc hz hst hs hs2 hK hDs
    go_wp2_with fail
    refine⟨by simp,.inl ⟨_,_,rfl,run_takeDeferred HD4.out,?_⟩⟩
    exact⟨.agg #[.int .i64 oa,.slice na1 na2 na3,.int .i64 sa,.int .i64 ma,.int .i64 qa,.slice la1 la2 la3],by simp [results,Tryz.results92,go_sem,q0,q1,q2,q3,q4,q5],HFIN.out.put HUD.out ⟨by have:=HDS.out;omega,by have:=HDS.out;omega⟩ HDN.out⟩
   case stop =>
    rintro D c' pre W _ _ h _
    exact h.elim
end Go.Proofs.YtkhbpebpljdifaaGreatDoor
namespace Go.Proofs.YtkhbpebpljdifaaGreatDoor
open Go.RowKit Go.PL Go.Maps
theorem operand_calls (p:Nat) (l:List Tok) (htx:∀t∈l,t.text.length≤65536):∀(d:Nat) (w:World) (s:PS) (n:Nd) (s':PS),Cx w p l→RdAt w p l s→s.dp≤256→kCj l d s=some (n,s')→Calls Tryz.prog 147 #[.pointer (some ⟨p,0,none⟩)] w (kMk w p l s n s')
 | 0,w,s,n,s',_,_,_,he=>by unfold kCj at he;cases he
 | d+1,w,s,n,s',hx,h,hd,he=>by
  have hop:Rdr w p l 147 #[.pointer (some ⟨p,0,none⟩)] (kCj l d):=fun w1 s1 n1 s2 hu hR hd1 he1=>operand_calls p l htx d w1 s1 n1 s2 (hx.upto hu) hR hd1 he1
  have him:Rdr w p l 92 #[.pointer (some ⟨p,0,none⟩)] (kMj l (kCj l d)):=fun w1 s1 n1 s2 hu hR hd1 he1=>implies_calls w1 p l s1 s2 n1 (kCj l d) (hx.upto hu) hR hd1 (hop.upto hu) he1
  have hfm:Rdr w p l 58 #[.pointer (some ⟨p,0,none⟩)] (kLx l (kCj l d)):=fun w1 s1 n1 s2 hu hR hd1 he1=>formula_calls w1 p l s1 s2 n1 (kCj l d) (hx.upto hu) hR hd1 (him.upto hu) he1
  have hlen:(tkAt l s).text.length≤65536:=htx _ (List.mem_of_getElem? (tk_some h.inb))
  unfold kCj at he
  simp only at he
  obtain⟨tk,tx,tv,tl,tc,hT⟩:∃tk tx tv tl tc,tkAt l s=⟨tk,tx,tv,tl,tc⟩:=⟨_,_,_,_,_,rfl⟩
  have HT:=Lib.hid hT
  rw [hT] at hlen he
  simp only at he hlen
  by_cases h34:tk=3∨tk=4
  ·have hk0:(tkAt l s).kind≠0:=by rw [hT];simp;omega
   by_cases h0:s.er=0
   ·rw [if_pos ⟨h34,h0⟩] at he
    by_cases e116:tx=[116,114,117,101]
    ·rw [if_pos e116] at he
     subst e116
     exact kRq w p l s s' n 170 hx h tk tv tl tc _ HT h34 h0 (Lib.hid fun w b hm=>piece_116 hm) (kMq Tryz.func170 (by kernel_rfl) rfl) (Lib.hid fun W4 hu hx4 hR4=>true_calls W4 p l s s' n hx4 hR4 hd hk0 he)
    rw [if_neg e116] at he
    by_cases e117:tx=[102,97,108,115,101]
    ·rw [if_pos e117] at he
     subst e117
     exact kRq w p l s s' n 171 hx h tk tv tl tc _ HT h34 h0 (Lib.hid fun w b hm=>piece_117 hm) (kMq Tryz.func171 (by kernel_rfl) rfl) (Lib.hid fun W4 hu hx4 hR4=>false_calls W4 p l s s' n hx4 hR4 hd hk0 he)
    rw [if_neg e117] at he
    by_cases e118:tx=[115,105,122,101]
    ·rw [if_pos e118] at he
     subst e118
     exact kRq w p l s s' n 172 hx h tk tv tl tc _ HT h34 h0 (Lib.hid fun w b hm=>piece_118 hm) (kMq Tryz.func172 (by kernel_rfl) rfl) (Lib.hid fun W4 hu hx4 hR4=>size_calls W4 p l s s' n hx4 hR4 hd hk0 he)
    rw [if_neg e118] at he
    by_cases e120:tx=[111,110,101]
    ·rw [if_pos e120] at he
     subst e120
     exact kRq w p l s s' n 174 hx h tk tv tl tc _ HT h34 h0 (Lib.hid fun w b hm=>piece_120 hm) (kMq Tryz.func174 (by kernel_rfl) rfl) (Lib.hid fun W4 hu hx4 hR4=>one_calls W4 p l s s' n hx4 hR4 hd hk0 he)
    rw [if_neg e120] at he
    by_cases e121:tx=[110,111,116]
    ·rw [if_pos e121] at he
     subst e121
     exact kRq w p l s s' n 175 hx h tk tv tl tc _ HT h34 h0 (Lib.hid fun w b hm=>piece_121 hm) (kMq Tryz.func175 (by kernel_rfl) rfl) (Lib.hid fun W4 hu hx4 hR4=>not_calls W4 p l s s' n (kCj l d) hx4 hR4 hd hk0 (hop.upto hu) he)
    rw [if_neg e121] at he
    by_cases e124:tx=[115,111,109,101]
    ·rw [if_pos e124] at he
     subst e124
     exact kRq w p l s s' n 178 hx h tk tv tl tc _ HT h34 h0 (Lib.hid fun w b hm=>piece_124 hm) (kMq Tryz.func178 (by kernel_rfl) rfl) (Lib.hid fun W4 hu hx4 hR4=>some_calls W4 p l s s' n (kLx l (kCj l d)) hx4 hR4 hd hk0 (hfm.upto hu) he)
    rw [if_neg e124] at he
    by_cases e126:tx=[101,118,101,114,121]
    ·rw [if_pos e126] at he
     subst e126
     exact kRq w p l s s' n 180 hx h tk tv tl tc _ HT h34 h0 (Lib.hid fun w b hm=>piece_126 hm) (kMq Tryz.func180 (by kernel_rfl) rfl) (Lib.hid fun W4 hu hx4 hR4=>every_calls W4 p l s s' n (kLx l (kCj l d)) hx4 hR4 hd hk0 (hfm.upto hu) he)
    rw [if_neg e126] at he
    by_cases e127:tx=[40]
    ·rw [if_pos e127] at he
     subst e127
     exact kRq w p l s s' n 181 hx h tk tv tl tc _ HT h34 h0 (Lib.hid fun w b hm=>piece_127 hm) (kMq Tryz.func181 (by kernel_rfl) rfl) (Lib.hid fun W4 hu hx4 hR4=>paren_calls W4 p l s s' n (kLx l (kCj l d)) hx4 hR4 hd hk0 (hfm.upto hu) he)
    rw [if_neg e127] at he
    exact operand_none w p l s s' n hx h tk tv tl tc tx HT hd h34 (Lib.hid fun w b hm=>piece_no hm tx (by omega) (by
     intro q hq e
     simp only [kOw,List.mem_cons,List.not_mem_nil,or_false] at hq
     rcases hq with rfl | rfl | rfl | rfl | rfl | rfl | rfl | rfl
     ·exact e116 (kWx e).symm
     ·exact e117 (kWx e).symm
     ·exact e118 (kWx e).symm
     ·exact e120 (kWx e).symm
     ·exact e121 (kWx e).symm
     ·exact e124 (kWx e).symm
     ·exact e126 (kWx e).symm
     ·exact e127 (kWx e).symm)) he
   ·rw [if_neg (fun hh=>h0 hh.2)] at he
    by_cases e116:tx=[116,114,117,101]
    ·subst e116
     exact kUz w p l s s' n 170 hx h tk tv tl tc _ HT hd h34 h0 (Lib.hid fun w b hm=>piece_116 hm) he
    by_cases e117:tx=[102,97,108,115,101]
    ·subst e117
     exact kUz w p l s s' n 171 hx h tk tv tl tc _ HT hd h34 h0 (Lib.hid fun w b hm=>piece_117 hm) he
    by_cases e118:tx=[115,105,122,101]
    ·subst e118
     exact kUz w p l s s' n 172 hx h tk tv tl tc _ HT hd h34 h0 (Lib.hid fun w b hm=>piece_118 hm) he
    by_cases e120:tx=[111,110,101]
    ·subst e120
     exact kUz w p l s s' n 174 hx h tk tv tl tc _ HT hd h34 h0 (Lib.hid fun w b hm=>piece_120 hm) he
    by_cases e121:tx=[110,111,116]
    ·subst e121
     exact kUz w p l s s' n 175 hx h tk tv tl tc _ HT hd h34 h0 (Lib.hid fun w b hm=>piece_121 hm) he
    by_cases e124:tx=[115,111,109,101]
    ·subst e124
     exact kUz w p l s s' n 178 hx h tk tv tl tc _ HT hd h34 h0 (Lib.hid fun w b hm=>piece_124 hm) he
    by_cases e126:tx=[101,118,101,114,121]
    ·subst e126
     exact kUz w p l s s' n 180 hx h tk tv tl tc _ HT hd h34 h0 (Lib.hid fun w b hm=>piece_126 hm) he
    by_cases e127:tx=[40]
    ·subst e127
     exact kUz w p l s s' n 181 hx h tk tv tl tc _ HT hd h34 h0 (Lib.hid fun w b hm=>piece_127 hm) he
    exact operand_none w p l s s' n hx h tk tv tl tc tx HT hd h34 (Lib.hid fun w b hm=>piece_no hm tx (by omega) (by
     intro q hq e
     simp only [kOw,List.mem_cons,List.not_mem_nil,or_false] at hq
     rcases hq with rfl | rfl | rfl | rfl | rfl | rfl | rfl | rfl
     ·exact e116 (kWx e).symm
     ·exact e117 (kWx e).symm
     ·exact e118 (kWx e).symm
     ·exact e120 (kWx e).symm
     ·exact e121 (kWx e).symm
     ·exact e124 (kWx e).symm
     ·exact e126 (kWx e).symm
     ·exact e127 (kWx e).symm)) he
  ·rw [if_neg (fun hh=>h34 hh.1)] at he
   exact operand_other w p l s s' n hx h tk tv tl tc tx HT hd (by omega) (by omega) he
theorem whole_calls (p:Nat) (l:List Tok) (htx:∀t∈l,t.text.length≤65536) (w:World) (s:PS) (n:Nd) (s':PS) (hx:Cx w p l) (h:RdAt w p l s) (hd:s.dp≤256) (he:wholeP l s=some (n,s')):Calls Tryz.prog 58 #[.pointer (some ⟨p,0,none⟩)] w (kMk w p l s n s'):=by
 have hop:Rdr w p l 147 #[.pointer (some ⟨p,0,none⟩)] (kCj l 257):=fun w1 s1 n1 s2 hu hR hd1 he1=>operand_calls p l htx 257 w1 s1 n1 s2 (hx.upto hu) hR hd1 he1
 have him:Rdr w p l 92 #[.pointer (some ⟨p,0,none⟩)] (kMj l (kCj l 257)):=fun w1 s1 n1 s2 hu hR hd1 he1=>implies_calls w1 p l s1 s2 n1 (kCj l 257) (hx.upto hu) hR hd1 (hop.upto hu) he1
 exact formula_calls w p l s s' n (kCj l 257) hx h hd him he
theorem kXj:∀l:List Nd,l.length≤kBk l
 | []=>by simp
 | x::xs=>by have:=kXj xs;have:=kJx x;simp only [List.length_cons,kBk];omega
theorem sizeN_calls:∀(k:Nat) (nd:Nd),kCz nd≤k→k≤10000000→∀(v:Value) (w:World) (P:Nat→Prop),NdV w P nd v→Calls Tryz.prog 32 #[v] w fun e w'=>e=.returned (.int .i64 (kCz nd))∧Upto [] w w'
 | 0,nd,hk,_,_,_,_,_=>by have:=kJx nd;omega
 | k+1,.mk op nms so nn mm l,hk,hk7,v,w,P,h=>by
  unfold NdV at h
  obtain⟨vn,vl,rfl,h1,h2⟩:=h
  obtain⟨n1,n3,rfl⟩:=h1.len
  obtain⟨av,cv,hvl,hg⟩:∃av cv,vl=.slice av l.length cv∧∀i x,l[i]?=some x→∃g o v0 v1 v2 v3 v4 v5,av=some ⟨g,o,none⟩∧w.cell? ⟨g,o+i*6,none⟩=some v0∧w.cell? ⟨g,o+i*6+1,none⟩=some v1∧w.cell? ⟨g,o+i*6+2,none⟩=some v2∧w.cell? ⟨g,o+i*6+3,none⟩=some v3∧w.cell? ⟨g,o+i*6+4,none⟩=some v4∧w.cell? ⟨g,o+i*6+5,none⟩=some v5∧NdV w P x (.agg #[v0,v1,v2,v3,v4,v5]):=by
   rcases h2 with⟨rfl,a,c,rfl⟩ | ⟨g,o,c,rfl,-,h3⟩
   ·exact⟨a,c,rfl,fun i x h=>by simp at h⟩
   ·exact⟨_,c,rfl,fun i x hi=>by
     obtain⟨v0,v1,v2,v3,v4,v5,h⟩:=h3.get l o i x hi
     exact⟨g,o,v0,v1,v2,v3,v4,v5,rfl,h⟩⟩
  subst hvl
  have HG:=Lib.hid hg
  have hsz:kBk l≤k:=by simp only [kCz] at hk;omega
  have HSZ:=Lib.hid hsz
  have HE:Hid (kCz (.mk op nms so nn mm l)=1+kBk l):=Lib.hid (by simp only [kCz])
  have HLEN:Hid (l.length≤10000000):=Lib.hid (by have:=kXj l;omega)
  have hlen:=HLEN.out
  generalize hll:l.length=ll at *
  have HLL:=Lib.hid hll
  have hL0:(0:Int)≤ll:=by omega
  have hL1:(ll:Int)≤10000000:=by omega
  clear h1 h2 hg hsz hll hlen hk
  go_enter Tryz.func32,Tryz.ntmps32
  go_wp2_with fail
  go_loopw [3,9] (fun s i wr=>∃j:Nat,j≤ll∧i=.int .i64 j∧s=.int .i64 (1+(kBk (l.take j):Int))∧Hid (Upto [] w wr)) (fun _ i _=>ll-(intOf i).toNat)
  case atStart=>exact⟨0,by omega,rfl,by simp [kBk],Lib.hid ((Upto.refl [] w).alloc _)⟩
  case round =>
   obtain⟨j,hj,rfl,rfl,HU⟩:=hrel
   rcases Nat.lt_or_ge j ll with hlt | hge
   ·obtain⟨x,hx⟩:∃x,l[j]?=some x:=⟨_,List.getElem?_eq_getElem (by have:=HLL.out;omega)⟩
    obtain⟨g,o,v0,v1,v2,v3,v4,v5,rfl,c0,c1,c2,c3,c4,c5,hnx⟩:=HG.out j x hx
    obtain⟨xo,xn1,xn2,xn3,xs,xm,xq,xl1,xl2,xl3,hsix⟩:=hnx.six
    simp only [Value.agg.injEq,Array.mk.injEq,List.cons.injEq,and_true] at hsix
    obtain⟨rfl,rfl,rfl,rfl,rfl,rfl⟩:=hsix
    have hlb:=World.block_lt_of_cell? w _ c0
    replace c0:=(HU.out.cell (p:=⟨g,o+j*6,none⟩) hlb (by simp)).trans c0
    replace c1:=(HU.out.cell (p:=⟨g,o+j*6+1,none⟩) hlb (by simp)).trans c1
    replace c2:=(HU.out.cell (p:=⟨g,o+j*6+2,none⟩) hlb (by simp)).trans c2
    replace c3:=(HU.out.cell (p:=⟨g,o+j*6+3,none⟩) hlb (by simp)).trans c3
    replace c4:=(HU.out.cell (p:=⟨g,o+j*6+4,none⟩) hlb (by simp)).trans c4
    replace c5:=(HU.out.cell (p:=⟨g,o+j*6+5,none⟩) hlb (by simp)).trans c5
    have hst:=sizesF_take l j x hx
    have HST:=Lib.hid hst
    have hua:Upto [] wr (wr.alloc (.cells #[.int .i64 xo,.slice xn1 xn2 xn3,.int .i64 xs,.int .i64 xm,.int .i64 xq,.slice xl1 xl2 xl3] 34)):=(Upto.refl [] wr).alloc _
    have HC:=Lib.hid (sizeN_calls k x (by have:=HSZ.out;omega) (by omega) _ (wr.alloc (.cells #[.int .i64 xo,.slice xn1 xn2 xn3,.int .i64 xs,.int .i64 xm,.int .i64 xq,.slice xl1 xl2 xl3] 34)) P ((hnx.ext HU.out).ext hua))
    have HUA:=Lib.hid (HU.out.trans_ext hua)
    have hltI:(j:Int)<ll:=by omega
    have hj0:(0:Int)≤j:=by omega
    have hb1:=HSZ.out
    have hb2:=kJx x
    have hb3:=kQj x
    have hb4:=kKq (l.take j)
    generalize hA:kBk (l.take j)=A at *
    generalize hB:kCz x=B at *
    have hA0:(0:Int)≤A:=by omega
    have hA1:(A:Int)≤10000000:=by omega
    have hB0:(0:Int)≤B:=by omega
    have hB1:(B:Int)≤10000000:=by omega
    have HAB:=Lib.hid (And.intro hA hB)
    clear hst hua hnx hlb hx hb1 hb2 hb3 hb4 hA hB
    go_wp2_with fail
    refine HC.out.mono ?_
    rintro e w5 ⟨rfl,hu5⟩
    have HU5:=Lib.hid (HUA.out.trans_ext hu5)
    clear hu5
    go_wp2_with fail
    go_roundw
    case rel=>exact⟨j+1,by omega,by go_num,by rw [HST.out.1];congr 1;omega,HU5⟩
    case measure=>simp [intOf];omega
   ·obtain rfl:j=ll:=by omega
    have hgeI:(j:Int)≥j:=by omega
    have HT:Hid (l.take j=l):=Lib.hid (by rw [←HLL.out,List.take_length])
    rw [HT.out]
    have hq1:=HSZ.out
    have hq2:=kKq l
    generalize hA:kBk l=A at *
    have hA0:(0:Int)≤A:=by omega
    have hA1:(A:Int)≤10000000:=by omega
    have HA:=Lib.hid hA
    clear hq1 hq2 hA
    go_wp2
    go_ret
    exact⟨by rw [HE.out];exact ret_int (by omega),HU.out⟩
theorem depthN_calls:∀(k:Nat) (nd:Nd),kCz nd≤k→k≤10000000→∀(v:Value) (w:World) (P:Nat→Prop),NdV w P nd v→Calls Tryz.prog 33 #[v] w fun e w'=>e=.returned (.int .i64 (kNw nd))∧Upto [] w w'
 | 0,nd,hk,_,_,_,_,_=>by have:=kJx nd;omega
 | k+1,.mk op nms so nn mm l,hk,hk7,v,w,P,h=>by
  unfold NdV at h
  obtain⟨vn,vl,rfl,h1,h2⟩:=h
  obtain⟨n1,n3,rfl⟩:=h1.len
  obtain⟨av,cv,hvl,hg⟩:∃av cv,vl=.slice av l.length cv∧∀i x,l[i]?=some x→∃g o v0 v1 v2 v3 v4 v5,av=some ⟨g,o,none⟩∧w.cell? ⟨g,o+i*6,none⟩=some v0∧w.cell? ⟨g,o+i*6+1,none⟩=some v1∧w.cell? ⟨g,o+i*6+2,none⟩=some v2∧w.cell? ⟨g,o+i*6+3,none⟩=some v3∧w.cell? ⟨g,o+i*6+4,none⟩=some v4∧w.cell? ⟨g,o+i*6+5,none⟩=some v5∧NdV w P x (.agg #[v0,v1,v2,v3,v4,v5]):=by
   rcases h2 with⟨rfl,a,c,rfl⟩ | ⟨g,o,c,rfl,-,h3⟩
   ·exact⟨a,c,rfl,fun i x h=>by simp at h⟩
   ·exact⟨_,c,rfl,fun i x hi=>by
     obtain⟨v0,v1,v2,v3,v4,v5,h⟩:=h3.get l o i x hi
     exact⟨g,o,v0,v1,v2,v3,v4,v5,rfl,h⟩⟩
  subst hvl
  have HG:=Lib.hid hg
  have hsz:kBk l≤k:=by simp only [kCz] at hk;omega
  have HSZ:=Lib.hid hsz
  have HE:Hid (kNw (.mk op nms so nn mm l)=kLz l+1):=Lib.hid (by simp only [kNw])
  have HLEN:Hid (l.length≤10000000):=Lib.hid (by have:=kXj l;omega)
  have hlen:=HLEN.out
  generalize hll:l.length=ll at *
  have HLL:=Lib.hid hll
  have hL0:(0:Int)≤ll:=by omega
  have hL1:(ll:Int)≤10000000:=by omega
  clear h1 h2 hg hsz hll hlen hk
  go_enter Tryz.func33,Tryz.ntmps33
  go_wp2_with fail
  go_loopw [3,9] (fun s i wr=>∃j:Nat,j≤ll∧i=.int .i64 j∧s=.int .i64 ((kLz (l.take j):Int))∧Hid (Upto [] w wr)) (fun _ i _=>ll-(intOf i).toNat)
  case atStart=>exact⟨0,by omega,rfl,by simp [kLz],Lib.hid ((Upto.refl [] w).alloc _)⟩
  case round =>
   obtain⟨j,hj,rfl,rfl,HU⟩:=hrel
   rcases Nat.lt_or_ge j ll with hlt | hge
   ·obtain⟨x,hx⟩:∃x,l[j]?=some x:=⟨_,List.getElem?_eq_getElem (by have:=HLL.out;omega)⟩
    obtain⟨g,o,v0,v1,v2,v3,v4,v5,rfl,c0,c1,c2,c3,c4,c5,hnx⟩:=HG.out j x hx
    obtain⟨xo,xn1,xn2,xn3,xs,xm,xq,xl1,xl2,xl3,hsix⟩:=hnx.six
    simp only [Value.agg.injEq,Array.mk.injEq,List.cons.injEq,and_true] at hsix
    obtain⟨rfl,rfl,rfl,rfl,rfl,rfl⟩:=hsix
    have hlb:=World.block_lt_of_cell? w _ c0
    replace c0:=(HU.out.cell (p:=⟨g,o+j*6,none⟩) hlb (by simp)).trans c0
    replace c1:=(HU.out.cell (p:=⟨g,o+j*6+1,none⟩) hlb (by simp)).trans c1
    replace c2:=(HU.out.cell (p:=⟨g,o+j*6+2,none⟩) hlb (by simp)).trans c2
    replace c3:=(HU.out.cell (p:=⟨g,o+j*6+3,none⟩) hlb (by simp)).trans c3
    replace c4:=(HU.out.cell (p:=⟨g,o+j*6+4,none⟩) hlb (by simp)).trans c4
    replace c5:=(HU.out.cell (p:=⟨g,o+j*6+5,none⟩) hlb (by simp)).trans c5
    have hst:=sizesF_take l j x hx
    have HST:=Lib.hid hst
    have HXX:=Lib.hid hx
    have hua:Upto [] wr (wr.alloc (.cells #[.int .i64 xo,.slice xn1 xn2 xn3,.int .i64 xs,.int .i64 xm,.int .i64 xq,.slice xl1 xl2 xl3] 34)):=(Upto.refl [] wr).alloc _
    have HC:=Lib.hid (depthN_calls k x (by have:=HSZ.out;omega) (by omega) _ (wr.alloc (.cells #[.int .i64 xo,.slice xn1 xn2 xn3,.int .i64 xs,.int .i64 xm,.int .i64 xq,.slice xl1 xl2 xl3] 34)) P ((hnx.ext HU.out).ext hua))
    have HUA:=Lib.hid (HU.out.trans_ext hua)
    have hltI:(j:Int)<ll:=by omega
    have hj0:(0:Int)≤j:=by omega
    have hb1:=HSZ.out
    have hb2:=kJx x
    have hb3:=kQj x
    have hb4:=kKq (l.take j)
    generalize hA:kLz (l.take j)=A at *
    generalize hB:kNw x=B at *
    have hA0:(0:Int)≤A:=by omega
    have hA1:(A:Int)≤10000000:=by omega
    have hB0:(0:Int)≤B:=by omega
    have hB1:(B:Int)≤10000000:=by omega
    have HAB:=Lib.hid (And.intro hA hB)
    clear hst hua hnx hlb hx hb1 hb2 hb3 hb4 hA hB
    have HMX:Hid (kLz (l.take (j+1))=max A B):=Lib.hid (by rw [depthsF_take l j x HXX.out,HAB.out.1,HAB.out.2])
    rcases Nat.lt_or_ge A B with hab | hab
    ·have habI:(A:Int)<B:=by omega
     have hmx:max (A:Int) B=B:=by omega
     go_wp2_with fail
     refine HC.out.mono ?_
     rintro e w5 ⟨rfl,hu5⟩
     have HU5:=Lib.hid (HUA.out.trans_ext hu5)
     clear hu5
     go_wp2_with fail
     go_roundw
     case rel=>exact⟨j+1,by omega,by go_num,by rw [HMX.out];first | rfl | (congr 1;omega),HU5⟩
     case measure=>simp [intOf];omega
    ·have habI:(B:Int)≤A:=by omega
     have hmx:max (A:Int) B=A:=by omega
     go_wp2_with fail
     refine HC.out.mono ?_
     rintro e w5 ⟨rfl,hu5⟩
     have HU5:=Lib.hid (HUA.out.trans_ext hu5)
     clear hu5
     go_wp2_with fail
     go_roundw
     case rel=>exact⟨j+1,by omega,by go_num,by rw [HMX.out];first | rfl | (congr 1;omega),HU5⟩
     case measure=>simp [intOf];omega
   ·obtain rfl:j=ll:=by omega
    have hgeI:(j:Int)≥j:=by omega
    have HT:Hid (l.take j=l):=Lib.hid (by rw [←HLL.out,List.take_length])
    rw [HT.out]
    have hq1:=HSZ.out
    have hq2:=kKq l
    generalize hA:kLz l=A at *
    have hA0:(0:Int)≤A:=by omega
    have hA1:(A:Int)≤10000000:=by omega
    have HA:=Lib.hid hA
    clear hq1 hq2 hA
    go_wp2
    go_ret
    exact⟨by rw [HE.out];exact ret_int (by omega),HU.out⟩
theorem great_calls (nd:Nd) (v:Value) (w:World) (P:Nat→Prop) (h:NdV w P nd v) (hk:kCz nd≤10000000):Calls Tryz.prog 64 #[v] w fun e w'=>e=.returned (.int .i64 (kIz nd))∧Upto [] w w':=by
 obtain⟨xo,xn1,xn2,xn3,xs,xm,xq,xl1,xl2,xl3,rfl⟩:=h.six
 have hua:Upto [] w (w.alloc (.cells #[.int .i64 xo,.slice xn1 xn2 xn3,.int .i64 xs,.int .i64 xm,.int .i64 xq,.slice xl1 xl2 xl3] 34)):=(Upto.refl [] w).alloc _
 have HS:=Lib.hid (sizeN_calls _ nd hk (Nat.le_refl _) _ _ P (h.ext hua))
 have HN:=Lib.hid h
 have HUA:=Lib.hid hua
 have HNB:=Lib.hid (kAq w (.cells #[.int .i64 xo,.slice xn1 xn2 xn3,.int .i64 xs,.int .i64 xm,.int .i64 xq,.slice xl1 xl2 xl3] 34))
 have hd:=kQj nd
 clear h hua
 by_cases h1:4096<kCz nd
 ·have hI:(4096:Int)<kCz nd:=by omega
  have HE:Hid (kIz nd=8):=Lib.hid (by unfold kIz;rw [if_pos h1])
  go_enter Tryz.func64,Tryz.ntmps64
  go_wp2_with fail
  refine HS.out.mono ?_
  rintro e w2 ⟨rfl,hu2⟩
  have HU2:=Lib.hid (HUA.out.trans_ext hu2)
  clear hu2
  go_wp2_with fail
  go_ret
  exact⟨by rw [HE.out];rfl,HU2.out⟩
 ·have hI:¬(4096:Int)<kCz nd:=by omega
  have hI2:(kCz nd:Int)≤4096:=by omega
  by_cases h2:256<kNw nd
  ·have hJ:(256:Int)<kNw nd:=by omega
   have HE:Hid (kIz nd=16):=Lib.hid (by unfold kIz;rw [if_neg h1,if_pos h2])
   go_enter Tryz.func64,Tryz.ntmps64
   go_wp2_with fail
   refine HS.out.mono ?_
   rintro e w2 ⟨rfl,hu2⟩
   have hb2:=hu2.at HNB.out (by simp)
   obtain⟨x0,x1,x2,x3,x4,x5⟩:=kAx hb2
   obtain⟨y0,y1,y2,y3,y4,y5⟩:=kDk hb2
   have HU2:=Lib.hid (HUA.out.trans_ext hu2)
   have HD:=Lib.hid (depthN_calls _ nd hk (Nat.le_refl _) _ w2 P (HN.out.ext HU2.out))
   clear hu2 hb2
   go_wp2_with fail
   refine HD.out.mono ?_
   rintro e w3 ⟨rfl,hu3⟩
   have HU3:=Lib.hid (HU2.out.trans_ext hu3)
   clear hu3
   go_wp2_with fail
   go_ret
   exact⟨by rw [HE.out];rfl,HU3.out⟩
  ·have hJ:¬(256:Int)<kNw nd:=by omega
   have hJ2:(kNw nd:Int)≤256:=by omega
   have HE:Hid (kIz nd=0):=Lib.hid (by unfold kIz;rw [if_neg h1,if_neg h2])
   go_enter Tryz.func64,Tryz.ntmps64
   go_wp2_with fail
   refine HS.out.mono ?_
   rintro e w2 ⟨rfl,hu2⟩
   have hb2:=hu2.at HNB.out (by simp)
   obtain⟨x0,x1,x2,x3,x4,x5⟩:=kAx hb2
   obtain⟨y0,y1,y2,y3,y4,y5⟩:=kDk hb2
   have HU2:=Lib.hid (HUA.out.trans_ext hu2)
   have HD:=Lib.hid (depthN_calls _ nd hk (Nat.le_refl _) _ w2 P (HN.out.ext HU2.out))
   clear hu2 hb2
   go_wp2_with fail
   refine HD.out.mono ?_
   rintro e w3 ⟨rfl,hu3⟩
   have HU3:=Lib.hid (HU2.out.trans_ext hu3)
   clear hu3
   go_wp2_with fail
   go_ret
   exact⟨by rw [HE.out];rfl,HU3.out⟩
def varC (o:List UInt8×Int):List Value:=[.string ⟨o.1.toArray⟩,.int .i64 o.2]
theorem vars_at {l:List (List UInt8×Int)} {i:Nat} {x:List UInt8×Int} (h:l[i]?=some x):(l.flatMap varC)[i*2]?=some (.string ⟨x.1.toArray⟩)∧(l.flatMap varC)[i*2+1]?=some (.int .i64 x.2) :=
 ⟨flatMap_at varC 2 (fun _=>rfl) l i 0 x h (by decide),flatMap_at varC 2 (fun _=>rfl) l i 1 x h (by decide)⟩
theorem free1_calls (a tx:List UInt8) (q:Int) (tk tv tl tc Bt:Nat) (w:World) (hb:w.heap[Bt]?=some (.cells #[.int .i64 tk,.string ⟨tx.toArray⟩,.int .i64 tv,.int .i64 tl,.int .i64 tc] 83 (0,0))):Calls Tryz.prog 100 #[.agg #[.string ⟨a.toArray⟩,.int .i64 q],.pointer (some ⟨Bt,0,none⟩)] w fun e w'=>e=.returned (.bool (decide (a=tx)))∧Upto [] w w':=by
 have hu:Upto [] w (w.alloc (.cells #[.string ⟨a.toArray⟩,.int .i64 q] 86)):=(Upto.refl [] w).alloc _
 have c1:=kAz (hu.at hb (by simp)) 1
 simp only [List.getElem?_toArray,List.getElem?_cons_zero,List.getElem?_cons_succ] at c1
 by_cases h:a=tx
 ·have k1:(a==tx)=true:=by simp [h]
  have HE:Hid (decide (a=tx)=true):=Lib.hid (by simp [h])
  clear h hb
  go_enter Tryz.func100,Tryz.ntmps100
  go_wp2_with fail
  go_ret
  exact⟨by rw [HE.out];rfl,hu⟩
 ·have k1:(a==tx)=false:=by simp [h]
  have HE:Hid (decide (a=tx)=false):=Lib.hid (by simp [h])
  clear h hb
  go_enter Tryz.func100,Tryz.ntmps100
  go_wp2_with fail
  go_ret
  exact⟨by rw [HE.out];rfl,hu⟩
theorem index_calls (out:List (List UInt8×Int)) (tx:List UInt8) (tk tv tl tc Bt:Nat) (v:Value) (w:World) (hl:out.length≤1000000) (hr:w.ownsRow 0 86 2 v out.length (out.flatMap varC)) (hb:w.heap[Bt]?=some (.cells #[.int .i64 tk,.string ⟨tx.toArray⟩,.int .i64 tv,.int .i64 tl,.int .i64 tc] 83 (0,0))) :
  Calls Tryz.prog 134 #[v,.func (.func 100) #[] #[.pointer (some ⟨Bt,0,none⟩)]] w fun e w'=>(∃z:Int,e=.returned (.int .i64 z)∧(0≤z↔(out.any fun o=>decide (o.1=tx))=true))∧Upto [] w w':=by
 obtain⟨va,vc,rfl,hva⟩:=kJj hr
 have hg:Hid (∀i x,out[i]?=some x→∃g,va=some ⟨g,0,none⟩∧w.cell? ⟨g,i*2,none⟩=some (.string ⟨x.1.toArray⟩)∧w.cell? ⟨g,i*2+1,none⟩=some (.int .i64 x.2)):=Lib.hid (by
  intro i x hi
  have hin:=(List.getElem?_eq_some_iff.1 hi).1
  rcases hr.2 with⟨h1,h2⟩ | ⟨g,cap,cur,h1,_,hh,_,_,_,ht⟩
  ·omega
  ·simp at h1
   obtain⟨rfl,rfl⟩:=h1
   have h2:=vars_at hi
   rw [←ht] at h2
   refine⟨g,rfl,?_,?_⟩
   ·rw [kAz hh]
    have:=h2.1
    rw [List.getElem?_take] at this
    split at this
    ·simpa using this
    ·cases this
   ·rw [kAz hh]
    have:=h2.2
    rw [List.getElem?_take] at this
    split at this
    ·simpa using this
    ·cases this)
 have HB:=Lib.hid hb
 clear hr hb hva
 generalize hll:out.length=ll at *
 have HLL:=Lib.hid hll
 have hL0:(0:Int)≤ll:=by omega
 have hL1:(ll:Int)≤1000000:=by omega
 clear hll
 go_enter Tryz.func134,Tryz.ntmps134
 go_wp2_with fail
 go_loopw [8] (fun i wr=>∃j:Nat,j≤ll∧i=.int .i64 j∧Hid (Upto [] w wr∧((out.take j).any fun o=>decide (o.1=tx))=false)) (fun i _=>ll-(intOf i).toNat)
 case atStart=>exact⟨0,by omega,rfl,Lib.hid ⟨Upto.refl _ _,by simp⟩⟩
 case round =>
  obtain⟨j,hj,rfl,HI⟩:=hrel
  rcases Nat.lt_or_ge j ll with hlt | hge
  ·obtain⟨x,hx⟩:∃x,out[j]?=some x:=⟨_,List.getElem?_eq_getElem (by have:=HLL.out;omega)⟩
   obtain⟨g,rfl,c0,c1⟩:=hg.out j x hx
   have hlb:=World.block_lt_of_cell? w _ c0
   replace c0:=(HI.out.1.cell (p:=⟨g,j*2,none⟩) hlb (by simp)).trans c0
   replace c1:=(HI.out.1.cell (p:=⟨g,j*2+1,none⟩) hlb (by simp)).trans c1
   have HC:=Lib.hid (free1_calls x.1 tx x.2 tk tv tl tc Bt wr (HI.out.1.at HB.out (by simp)))
   have HS:Hid ((out.take (j+1)).any (fun o=>decide (o.1=tx))=decide (x.1=tx)):=Lib.hid (by
    obtain⟨h1,h2⟩:=List.getElem?_eq_some_iff.1 hx
    rw [List.take_succ_eq_append_getElem h1,List.any_append,HI.out.2,h2]
    simp)
   have HX:=Lib.hid hx
   have hltI:(j:Int)<ll:=by omega
   have hj0:(0:Int)≤j:=by omega
   clear hx hlb
   cases hd:decide (x.1=tx) with
   | true =>
    rw [hd] at HC HS
    have HANY:Hid ((out.any fun o=>decide (o.1=tx))=true):=Lib.hid (by
     rw [List.any_eq_true]
     exact⟨x,List.mem_of_getElem? HX.out,hd⟩)
    clear hd
    go_wp2_with fail
    refine HC.out.mono ?_
    rintro e w5 ⟨rfl,hu5⟩
    have HU5:=Lib.hid (HI.out.1.trans_ext hu5)
    clear hu5
    go_wp2_with fail
    go_ret
    exact⟨⟨(j:Int),rfl,by rw [HANY.out];simp⟩,HU5.out⟩
   | false =>
    rw [hd] at HC HS
    clear hd
    go_wp2_with fail
    refine HC.out.mono ?_
    rintro e w5 ⟨rfl,hu5⟩
    have HU5:=Lib.hid (HI.out.1.trans_ext hu5)
    clear hu5
    go_wp2_with fail
    go_roundw
    case rel=>exact⟨j+1,by omega,by go_num,Lib.hid ⟨HU5.out,HS.out⟩⟩
    case measure=>simp [intOf];omega
  ·obtain rfl:j=ll:=by omega
   have hgeI:(j:Int)≥j:=by omega
   have HANY:Hid ((out.any fun o=>decide (o.1=tx))=false):=Lib.hid (by
    have:=HI.out.2
    rwa [←HLL.out,List.take_length] at this)
   go_wp2
   go_ret
   exact⟨⟨-1,rfl,by rw [HANY.out];simp⟩,HI.out.1⟩
theorem contains_calls (out:List (List UInt8×Int)) (tx:List UInt8) (tk tv tl tc Bt:Nat) (v:Value) (w:World) (hl:out.length≤1000000) (hr:w.ownsRow 0 86 2 v out.length (out.flatMap varC)) (hb:w.heap[Bt]?=some (.cells #[.int .i64 tk,.string ⟨tx.toArray⟩,.int .i64 tv,.int .i64 tl,.int .i64 tc] 83 (0,0))) :
  Calls Tryz.prog 99 #[v,.func (.func 100) #[] #[.pointer (some ⟨Bt,0,none⟩)]] w fun e w'=>e=.returned (.bool (out.any fun o=>decide (o.1=tx)))∧Upto [] w w':=by
 have HC:=Lib.hid (index_calls out tx tk tv tl tc Bt v w hl hr hb)
 generalize (out.any fun o=>decide (o.1=tx))=b at *
 clear hr hb
 go_enter Tryz.func99,Tryz.ntmps99
 go_wp2_with fail
 refine HC.out.mono ?_
 rintro e w2 ⟨⟨z,rfl,hz⟩,hu2⟩
 have HU:=Lib.hid hu2
 cases b with
 | true =>
  have h0:(0:Int)≤z:=hz.2 rfl
  clear hz hu2
  go_wp2_with fail
  go_ret
  exact⟨rfl,HU.out⟩
 | false =>
  have h0:¬(0:Int)≤z:=fun h=>by have:=hz.1 h;cases this
  clear hz hu2
  go_wp2_with fail
  go_ret
  exact⟨by first | rfl | exact kNx (decide_eq_false (by omega)),HU.out⟩
end Go.Proofs.YtkhbpebpljdifaaGreatDoor
