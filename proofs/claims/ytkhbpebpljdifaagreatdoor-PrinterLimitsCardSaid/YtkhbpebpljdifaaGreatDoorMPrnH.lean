/- Merged texts. -/
import Derived.Test.YtkhbpebpljdifaaGreatDoorMPri
set_option maxRecDepth 100000
set_option maxHeartbeats 25600000
namespace Go.Proofs.YtkhbpebpljdifaaGreatDoor
open Go.PL
section
variable {l:List PL.Tok} (hf:Fin l)
include hf
end
section
variable {l:List PL.Tok} (hf:Fin l)
include hf
end
theorem bareP_ok {l:List PL.Tok} (hf:Fin l) (hn:0<l.length):∃q s',bareP l=some (q,s')∧Adv l ⟨0,0,0⟩ s'∧kCz q.body≤2*l.length+1∧q.free.length≤9:=by
 obtain⟨n,s2,e2,a2,z2⟩:=wholeP_ok hf ⟨0,0,0⟩ rfl hn
 have:=a2.lt
 exact⟨⟨[],n⟩,s2,by unfold bareP;rw [e2];rfl,a2,by simp only;omega,by simp⟩
end Go.Proofs.YtkhbpebpljdifaaGreatDoor
namespace Go.PL
theorem NumI.start (k:Nat):NumI k [] k:=⟨by simp,by simp [kQw],fun _ h=>absurd rfl h,Or.inl (by simp)⟩
end Go.PL
namespace Go.Proofs.YtkhbpebpljdifaaGreatDoor
open Go.PL
theorem jn_one (t:PL.Tok):jn [t]=t.text:=by simp [jn_cons]
theorem jn_cons2 (t:PL.Tok) {r:List PL.Tok} (hr:r≠[]):jn (t::r)=t.text++32::jn r:=by
 have:=jn_app (a:=[t]) (by simp) hr
 rwa [jn_one] at this
theorem jn_par (b:Bool) {t:List PL.Tok} (u:List PL.Tok) (ht:t≠[]):jn (parT b t u)=if b then [40,32]++jn t++[32,41] else jn u:=by
 unfold parT
 cases b with
 | false=>rfl
 | true =>
  simp only [if_true]
  rw [jn_cons2 _ (by simp),jn_app ht (by simp),jn_one]
  simp [puT]
end Go.Proofs.YtkhbpebpljdifaaGreatDoor
namespace Go.PL
open Go.RowKit Go.MapKept
open Go.Maps (Keyed)
section
variable {P:Program} {k:TypeId} {w w':World} {b:Nat} {L:List (Value×Value)}
end
section
variable {P:Program} (w:World) {ops:Array Oper} {rest:List Oper} {o:Oper} {a:Act} {Q:Exit→Act→World→Prop}
end
section
variable {P:Program} (w:World)
end
section
variable {P:Program} (w:World)
end
def bv (b:UInt8):Value:=.int .u8 b.toNat
theorem conv_str {P:Program} {w:World} {src e dst:TypeId} (hs:P.underlying src=some (.slice e)) (he:P.underlying e=some (.int .u8)) (hd:P.underlying dst=some .string) {v:Value} {bs:List UInt8}
  (h:SlC w v (bs.map bv)):(convert src dst v).run P w=.ok (.string ⟨bs.toArray⟩) w:=by
 rcases h with⟨h0,a,c,rfl⟩ | ⟨g,o,c,rfl,hc⟩
 ·have hb:bs=[]:=by simpa using h0
  subst hb
  cases a with
  | none=>exact run_convert_bytes_nil w src e hs he 0 c dst hd
  | some a =>
   have hl:(loadCells a 0).run P w=.ok #[] w:=by simp [loadCells,loadCellsFrom]
   rw [run_convert_bytes_string w src dst e _ 0 c hs he hd,run_bytesToString w a 0 c [] (by simpa using hl)]
   rfl
 ·have:=run_convert_bytes_arg (P:=P) w src e hs he g o (bs.map bv).length c (bs.map fun b=>(b.toNat:Int)) (by simp) (fun i hi=>by
   simp at hi
   have:=hc i (bv bs[i]) (by simp [hi])
   rw [this]
   simp [bv,hi]) dst hd
  rw [this]
  congr 2
  simp only [strOfNums,List.map_map,Function.comp_def,Int.toNat_natCast,UInt8.ofNat_toNat,List.map_id']
section
variable {P:Program} (w:World) {o:Oper} {ac:Act} {Q:Exit→Act→World→Prop}
end
end Go.PL
namespace Go.Proofs.YtkhbpebpljdifaaGreatDoor
open Go.RowKit Go.PL Go.Maps
theorem cells3 {w:World} {p:Nat} {a b c:Value} {r:List Value} {t:TypeId} {z:Nat×Nat} (h:w.heap[p]?=some (.cells (a::b::c::r).toArray t z)):w.cell? ⟨p,0,none⟩=some a∧w.cell? ⟨p,1,none⟩=some b∧w.cell? ⟨p,2,none⟩=some c :=
 ⟨by simpa using kAz h 0,by simpa using kAz h 1,by simpa using kAz h 2⟩
theorem bare1_calls (w:World) (p:Nat) (l:List PL.Tok) (htx:∀t∈l,t.text.length≤65536) (s s':PS) (q:Qn) (hx:Cx w p l) (h:RdAt w p l s) (hd:s.dp≤256) (he:(wholeP l s).map (fun r=>(⟨[],r.1⟩,r.2))=some (q,s')) :
  Calls Tryz.prog 57 #[.pointer (some ⟨p,0,none⟩)] w (QPost w p l s q s'):=by
 have HF:Hid (Fin l):=Lib.hid h.fin
 have hin:=h.inb
 have HpB:Hid (p<w.heap.size):=Lib.hid h.lt
 have hu0:Upto [] w (w.alloc (.cells #[.slice none 0 0,.int .i64 0,.slice none 0 0,.int .i64 0,.int .i64 0,.int .i64 0,.slice none 0 0] 48)):=(Upto.refl [] w).alloc _
 have HR0:=Lib.hid (h.ext hu0)
 have HX0:=Lib.hid (hx.ext hu0)
 have HU0:Hid (Upto [p] w (w.alloc (.cells #[.slice none 0 0,.int .i64 0,.slice none 0 0,.int .i64 0,.int .i64 0,.int .i64 0,.slice none 0 0] 48))):=Lib.hid (hu0.mono (by simp))
 have HNew:Hid ((w.alloc (.cells #[.slice none 0 0,.int .i64 0,.slice none 0 0,.int .i64 0,.int .i64 0,.int .i64 0,.slice none 0 0] 48)).heap[w.heap.size]?=some (.cells #[.slice none 0 0,.int .i64 0,.slice none 0 0,.int .i64 0,.int .i64 0,.int .i64 0,.slice none 0 0] 48 (0,0))):=Lib.hid (kAq _ _)
 obtain⟨m,hv,rfl⟩:∃m,wholeP l s=some (m,s')∧q=⟨[],m⟩:=by
  cases hq:wholeP l s with
  | none=>rw [hq] at he;cases he
  | some r=>obtain⟨m,t⟩:=r;rw [hq] at he;simp at he;obtain⟨rfl,rfl⟩:=he;exact⟨m,rfl,rfl⟩
 clear hx h hu0 he
 go_enter Tryz.func57,Tryz.ntmps57
 go_wp2_with fail
 refine (whole_calls p l htx _ s m s' HX0.out HR0.out hd hv).mono ?_
 rintro e w2 ⟨vv,rfl,hn,hR2,hu2,ha⟩
 obtain⟨oa,na1,na2,na3,sa,ma,qa,la1,la2,la3,rfl⟩:=hn.six
 have hz:=hu2.at HNew.out (by have:=HpB.out;simp;omega)
 obtain⟨z0,z1,z2,z3,z4,z5,z6⟩:=kBw hz
 obtain⟨y0,y1,y2,y3,y4,y5,y6⟩:=kRk hz
 have HZ:=Lib.hid hz
 have HN:=Lib.hid hn
 have HR2:=Lib.hid hR2
 have HU2:=Lib.hid hu2
 have HA:=Lib.hid ha
 clear hn hR2 hu2 ha hz
 go_wp2_with fail
 have hst:=q_store HZ.out (.slice none 0 0) (.int .i64 oa) (.slice na1 na2 na3) (.int .i64 sa) (.int .i64 ma) (.int .i64 qa) (.slice la1 la2 la3)
 obtain⟨q0,q1,q2,q3,q4,q5,q6⟩:=kBw hst
 exact bodyPost_ret (v:=.agg #[.slice none 0 0,.int .i64 oa,.slice na1 na2 na3,.int .i64 sa,.int .i64 ma,.int .i64 qa,.slice la1 la2 la3]) (by simp [results,Tryz.results57,go_sem,q0,q1,q2,q3,q4,q5,q6]) rfl (qpost_fin (q:=⟨[],m⟩) (P:=New (w.alloc (.cells #[.slice none 0 0,.int .i64 0,.slice none 0 0,.int .i64 0,.int .i64 0,.int .i64 0,.slice none 0 0] 48))) (Nat.le_refl _) HpB.out (HU0.out.trans_same HU2.out) HR2.out HA.out SlP.nil HN.out (fun b hb _=>by have h1:=HU0.out.size;have h2:=kAk HNew.out;unfold New at hb ⊢;omega))
theorem sorted_calls (s:Int) (w:World):Calls Tryz.prog 20 #[.int .i64 s] w fun e w'=>e=.returned (.string ⟨(kOj s).toArray⟩)∧Upto [] w w':=by
 have HU:=Lib.hid (Upto.refl [] w)
 by_cases h0:s=0
 ·subst h0
  go_enter Tryz.func20,Tryz.ntmps20
  go_wp2_with fail
  go_ret
  exact⟨rfl,HU.out⟩
 by_cases h1:s=1
 ·subst h1
  go_enter Tryz.func20,Tryz.ntmps20
  go_wp2_with fail
  go_ret
  exact⟨rfl,HU.out⟩
 by_cases h2:s=2
 ·subst h2
  go_enter Tryz.func20,Tryz.ntmps20
  go_wp2_with fail
  go_ret
  exact⟨rfl,HU.out⟩
 by_cases h3:s=3
 ·subst h3
  go_enter Tryz.func20,Tryz.ntmps20
  go_wp2_with fail
  go_ret
  exact⟨rfl,HU.out⟩
 have e:kOj s=[]:=by unfold kOj;rw [if_neg h0,if_neg h1,if_neg h2,if_neg h3]
 rw [e]
 have b0:(s==0)=false:=by simpa using h0
 have b1:(s==1)=false:=by simpa using h1
 have b2:(s==2)=false:=by simpa using h2
 have b3:(s==3)=false:=by simpa using h3
 go_enter Tryz.func20,Tryz.ntmps20
 go_wp2_with fail
 go_ret
 exact⟨rfl,HU.out⟩
theorem conv_digit (wr:World) (m:Nat):(convert 115 9 (.slice (some ⟨wr.heap.size,0,none⟩) 1 1)).run Tryz.prog (wr.alloc (.cells #[.int .u8 (48+(m:Int) % 10)] 5))=.ok (.string ⟨[UInt8.ofNat (48+m % 10)].toArray⟩) (wr.alloc (.cells #[.int .u8 (48+(m:Int) % 10)] 5)):=by
 refine conv_str Tryz.underlying115 Tryz.underlying5 Tryz.underlying9 (Or.inr ⟨wr.heap.size,0,1,rfl,fun j u hj=>?_⟩)
 match j,hj with
 | 0,hj =>
  simp only [List.map_cons,List.getElem?_cons_zero,Option.some.injEq] at hj
  rw [←hj,kAz (kAq _ _)]
  simp only [bv,digit_nat]
  rfl
 | j+1,hj=>simp at hj
theorem conv_dig (wr:World) (k:Nat) (hk:k<10):(convert 115 9 (.slice (some ⟨wr.heap.size,0,none⟩) 1 1)).run Tryz.prog (wr.alloc (.cells #[.int .u8 (48+(k:Int))] 5))=.ok (.string ⟨#[UInt8.ofNat (48+k)]⟩) (wr.alloc (.cells #[.int .u8 (48+(k:Int))] 5)):=by
 have h:=conv_digit wr k
 rw [Nat.mod_eq_of_lt hk,show (k:Int) % 10=k by omega] at h
 exact h
theorem conv_byte (W:World) (B b:Nat) (hb:b<10) (h:W.cell? ⟨B,0,none⟩=some (.int .u8 (48+(b:Int)))):(convert 115 9 (.slice (some ⟨B,0,none⟩) 1 1)).run Tryz.prog W=.ok (.string ⟨#[UInt8.ofNat (48+b)]⟩) W:=by
 refine conv_str Tryz.underlying115 Tryz.underlying5 Tryz.underlying9 (Or.inr ⟨B,0,1,rfl,fun j u hj=>?_⟩)
 match j,hj with
 | 0,hj =>
  simp only [List.map_cons,List.getElem?_cons_zero,Option.some.injEq] at hj
  rw [←hj,h]
  have:=digit_nat b
  rw [Nat.mod_eq_of_lt hb] at this
  simp only [bv,this]
  rfl
 | j+1,hj=>simp at hj
theorem conW_word {k:Nat} (h:12≤k∧k<16):conW (k:Int)=wordsF.getD k []:=by
 have:k=12∨k=13∨k=14∨k=15:=by omega
 rcases this with rfl | rfl | rfl | rfl<;>rfl
theorem quW_word {k:Nat} (h:16≤k∧k<18):quW (k:Int)=wordsF.getD k []:=by
 have:k=16∨k=17:=by omega
 rcases this with rfl | rfl<;>rfl
theorem wordsF_len:∀k:Nat,(wordsF.getD k []).length≤10:=by
 intro k
 by_cases h:k<18
 ·have key:∀m:_root_.Fin 18,(wordsF.getD m.val []).length≤10:=by decide
  exact key ⟨k,h⟩
 ·rw [List.getD_eq_getElem?_getD,List.getElem?_eq_none (by show wordsF.length≤k;simp [wordsF];omega)]
  simp
end Go.Proofs.YtkhbpebpljdifaaGreatDoor
namespace Go.Proofs.YtkhbpebpljdifaaGreatDoor
open Go.PL
theorem check_ok {nm:List UInt8→Bool} (hnm:∀x,nm x=true→Real 1 x 0) {n:Nd} (h:kSq nm n=0):okF n∧kIz n=0:=by
 unfold kSq at h
 by_cases h3:kKk nm n≠0
 ·rw [if_pos h3] at h;exact absurd h h3
 rw [if_neg h3] at h
 exact⟨form_ok hnm _ _ (Nat.le_refl _) (Decidable.not_not.1 h3),h⟩
end Go.Proofs.YtkhbpebpljdifaaGreatDoor
namespace Go.Proofs.YtkhbpebpljdifaaGreatDoor
open Go.RowKit Go.PL Go.Maps
theorem info54:(Tryz.prog.info? 25).map (fun i=>(i.zero,i.size,i.bytes))=some (some (.agg #[.int .i64 0,.slice none 0 0,.int .i64 0,.int .i64 0,.int .i64 0,.slice none 0 0]),6,80):=by kernel_rfl
theorem info54':∃i,Tryz.prog.info? 25=some i∧i.zero=some (.agg #[.int .i64 0,.slice none 0 0,.int .i64 0,.int .i64 0,.int .i64 0,.slice none 0 0])∧i.size=6∧i.bytes=80:=by
 have h:=info54
 cases hi:Tryz.prog.info? 25 with
 | none=>rw [hi] at h;cases h
 | some i =>
  rw [hi] at h
  simp only [Option.map_some,Option.some.injEq,Prod.mk.injEq] at h
  exact⟨i,rfl,h.1,h.2.1,h.2.2⟩
def argS (ys:List (List UInt8)):List UInt8:=(argT ys).flatMap (fun u=>32::u.text)
theorem argS_nil:argS []=[]:=rfl
theorem argS_snoc:∀(xs:List (List UInt8)) (y:List UInt8),argS (xs++[y])=argS xs++(if xs=[] then [] else [32,44])++32::y
 | [],y=>by simp [argS,argT,idT]
 | [x],y=>by simp [argS,argT,idT,puT]
 | x::z::r,y=>by
  have h:=argS_snoc (z::r) y
  rw [if_neg (by simp)] at h ⊢
  simp only [argS,List.cons_append,argT,List.flatMap_cons] at h ⊢
  rw [h]
  simp
theorem argS_len (ys:List (List UInt8)) (h:∀x∈ys,x.length≤16):(argS ys).length≤19*ys.length:=by
 have h1:=arg_wts ys h
 have:∀L:List PL.Tok,(L.flatMap fun u=>32::u.text).length=wts L:=by
  intro L
  induction L with
  | nil=>rfl
  | cons t r ih=>simp only [List.flatMap_cons,List.length_append,ih,kDw,List.length_cons,wt]
 unfold argS
 rw [this]
 exact h1
theorem atom_true {names:List (List UInt8)} {n m:Int}:jn (kIk 0 names n m)=[116,114,117,101]:=rfl
theorem atom_false {names:List (List UInt8)} {n m:Int}:jn (kIk 1 names n m)=[102,97,108,115,101]:=rfl
theorem atom_two {k:Nat} (h2:2≤k) (h7:k<7) {x y:List UInt8} {n m:Int}:jn (kIk k [x,y] n m)=x++[32]++wordsF.getD k []++[32]++y:=by
 unfold kIk
 rw [if_neg (by omega),if_neg (by omega),if_pos (by omega),←rel_word ⟨h2,h7⟩,jn_cons]
 simp [idT]
theorem atom_is {x:List UInt8} {q:Nat} {m:Int}:jn (kIk 7 [x] q m)=x++[32,105,115,32]++digF 3 q:=by
 unfold kIk
 rw [if_neg (by omega),if_neg (by omega),if_neg (by omega),if_pos rfl,jn_cons]
 simp [idT,kyT,nmT]
theorem atom_size {x:List UInt8} {q p:Nat}:jn (kIk 8 [x] q p)=[115,105,122,101,32]++x++[32,109,111,100,32]++digF 3 p++[32,105,115,32]++digF 3 q:=by
 unfold kIk
 rw [if_neg (by omega),if_neg (by omega),if_neg (by omega),if_neg (by omega),if_pos rfl,jn_cons]
 simp [idT,kyT,nmT]
theorem atom_one {x:List UInt8} {n m:Int}:jn (kIk 9 [x] n m)=[111,110,101,32]++x:=by
 unfold kIk
 rw [if_neg (by omega),if_neg (by omega),if_neg (by omega),if_neg (by omega),if_neg (by omega),if_pos rfl,jn_cons]
 simp [idT,kyT]
theorem atom_call {f:List UInt8} {ys:List (List UInt8)} {n m:Int}:jn (kIk 10 (f::ys) n m)=f++[32,40]++argS ys++[32,41]:=by
 unfold kIk
 rw [if_neg (by omega),if_neg (by omega),if_neg (by omega),if_neg (by omega),if_neg (by omega),if_neg (by omega),jn_cons]
 simp [idT,puT,argS]
def opJ (op:Int) (place:Nat) (x:Nd) (last:Bool):List UInt8:=jn (parT (parB op place (opF x) last) (prT true x) (prT last x))
theorem opJ_eq (op:Int) (place:Nat) (x:Nd) (last:Bool):opJ op place x last=if parB op place (opF x) last then [40,32]++jn (prT true x)++[32,41] else jn (prT last x):=jn_par _ _ (prT_ne true x)
theorem par_ne (b:Bool) (x:Nd) (last:Bool):parT b (prT true x) (prT last x)≠[]:=by
 cases b
 ·exact prT_ne last x
 ·simp [parT]
theorem jn_not {names:List (List UInt8)} {so n m:Int} {a:Nd} {last:Bool}:jn (prT last (.mk 11 names so n m [a]))=[110,111,116,32]++opJ 11 0 a last:=by
 unfold prT
 rw [if_neg (by decide),if_pos rfl]
 simp only [prsT,List.getD_cons_zero]
 rw [jn_cons2 _ (par_ne _ _ _)]
 simp [kyT,opJ,opNd]
theorem jn_bin {op:Int} (h1:12≤op) (h2:op<16) {names:List (List UInt8)} {so n m:Int} {a b:Nd} {last:Bool}:jn (prT last (.mk op names so n m [a,b]))=opJ op 0 a false++[32]++conW op++[32]++opJ op 1 b last:=by
 unfold prT
 rw [if_neg (by omega),if_neg (by omega),if_pos h2]
 simp only [prsT,List.getD_cons_zero,List.getD_cons_succ]
 rw [jn_app (par_ne _ _ _) (by simp),jn_cons2 _ (par_ne _ _ _)]
 simp [kyT,opJ,opNd]
theorem jn_qu {op:Int} (h1:16≤op) {x:List UInt8} {so n m:Int} {a:Nd} {last:Bool}:jn (prT last (.mk op [x] so n m [a]))=quW op++[32]++kDj.getD so.toNat []++[32]++x++[32,58]++[32]++jn (prT true a):=by
 rw [prT,if_neg (by omega),if_neg (by omega),if_neg (by omega)]
 simp only [prsT,List.getD_cons_zero]
 rw [jn_cons2 _ (by simp),jn_cons2 _ (by simp),jn_cons2 _ (by simp),jn_cons2 _ (prT_ne true a)]
 simp [kyT,idT,puT]
mutual
def kPx:Nd→Nd→Bool
 | .mk op xs so n m l,.mk op' xs' so' n' m' l'=>decide (op=op')&&decide (so=so')&&decide (n=n')&&decide (m=m')&&decide (xs=xs')&&samesF l l'
def samesF:List Nd→List Nd→Bool
 | [],[]=>true
 | x::r,y::t=>kPx x y&&samesF r t
 | [],_::_=>false
 | _::_,[]=>false
end
mutual
theorem sameF_eq:∀(a b:Nd),kPx a b=true↔a=b
 | .mk op xs so n m l,.mk op' xs' so' n' m' l'=>by
  unfold kPx
  simp only [Bool.and_eq_true,decide_eq_true_eq,samesF_eq l l',Nd.mk.injEq]
  constructor
  ·rintro⟨⟨⟨⟨⟨h1,h2⟩,h3⟩,h4⟩,h5⟩,h6⟩;exact⟨h1,h5,h2,h3,h4,h6⟩
  ·rintro⟨h1,h5,h2,h3,h4,h6⟩;exact⟨⟨⟨⟨⟨h1,h2⟩,h3⟩,h4⟩,h5⟩,h6⟩
theorem samesF_eq:∀(a b:List Nd),samesF a b=true↔a=b
 | [],[]=>by simp [samesF]
 | x::r,y::t=>by
  unfold samesF
  simp only [Bool.and_eq_true,sameF_eq x y,samesF_eq r t,List.cons.injEq]
 | [],_::_=>by simp [samesF]
 | _::_,[]=>by simp [samesF]
end
theorem names_calls (xs ys:List (List UInt8)) (v v':Value) (P P':Nat→Prop) (w:World) (hl:xs.length≤10000000) (_hl':ys.length≤10000000) (h:SlP w P v xs.length (xs.map sV)) (h':SlP w P' v' ys.length (ys.map sV)):Calls Tryz.prog 60 #[v,v'] w fun e w'=>e=.returned (.bool (decide (xs=ys)))∧Upto [] w w':=by
 obtain⟨a,c,rfl,hg⟩:=h.get
 obtain⟨a',c',rfl,hg'⟩:=h'.get
 have HG:Hid (∀i x,xs[i]?=some x→∃g o,a=some ⟨g,o,none⟩∧w.cell? ⟨g,o+i,none⟩=some (.string ⟨x.toArray⟩)):=Lib.hid (fun i x hi=>hg i _ (by rw [List.getElem?_map,hi];rfl))
 have HG':Hid (∀i x,ys[i]?=some x→∃g o,a'=some ⟨g,o,none⟩∧w.cell? ⟨g,o+i,none⟩=some (.string ⟨x.toArray⟩)):=Lib.hid (fun i x hi=>hg' i _ (by rw [List.getElem?_map,hi];rfl))
 have HU0:=Lib.hid (Upto.refl [] w)
 clear h h' hg hg'
 by_cases hne:xs.length≠ys.length
 ·have HF:Hid (decide (xs=ys)=false):=Lib.hid (by simp;intro e;exact hne (by rw [e]))
  rw [HF.out]
  generalize hA:xs.length=A at *
  generalize hB:ys.length=B at *
  have q1:((A:Int)==(B:Int))=false:=by rw [beq_eq_false_iff_ne];omega
  have q2:((A:Int) != (B:Int))=true:=by rw [bne,q1];rfl
  clear hne HF hA hB
  go_enter Tryz.func60,Tryz.ntmps60
  go_wp2_with fail
  go_ret
  exact⟨rfl,HU0.out⟩
 have hne:=Decidable.not_not.1 hne
 obtain⟨ll,hll⟩:∃ll,xs.length=ll:=⟨_,rfl⟩
 have hll':ys.length=ll:=hne▸hll
 have HLL:=Lib.hid (And.intro hll hll')
 rw [hll,hll']
 have hL0:(0:Int)≤ll:=by omega
 have hL1:(ll:Int)≤10000000:=by omega
 clear hll hll' hl _hl' hne
 obtain⟨R,hR⟩:∃R,Hid (decide (xs=ys)=R):=⟨_,Lib.hid rfl⟩
 rw [hR.out]
 go_enter Tryz.func60,Tryz.ntmps60
 go_wp2_with fail
 go_loopw [13] (fun i wr=>∃j:Nat,j≤ll∧i=.int .i64 j∧Hid (∀q,q<j→xs[q]?=ys[q]?)∧Hid (Upto [] w wr)) (fun i _=>ll-(intOf i).toNat)
 case atStart=>exact⟨0,by omega,rfl,Lib.hid (fun q hq=>by omega),Lib.hid (Upto.refl _ _)⟩
 case round =>
  obtain⟨j,hj,rfl,HE,HU⟩:=hrel
  have hj0:(0:Int)≤j:=by omega
  rcases Nat.lt_or_ge j ll with hlt | hge
  ·obtain⟨x,hx⟩:∃x,xs[j]?=some x:=⟨_,List.getElem?_eq_getElem (by have:=HLL.out.1;omega)⟩
   obtain⟨y,hy⟩:∃y,ys[j]?=some y:=⟨_,List.getElem?_eq_getElem (by have:=HLL.out.2;omega)⟩
   obtain⟨g,o,rfl,c0⟩:=HG.out j x hx
   obtain⟨g',o',rfl,c1⟩:=HG'.out j y hy
   replace c0:=kAw HU.out c0
   replace c1:=kAw HU.out c1
   have hd:=(Upto.refl [] wr).drew
   have d0:=(hd.cell (p:=⟨g,o+j,none⟩) (World.block_lt_of_cell? wr _ c0) (by simp)).trans c0
   have d1:=(hd.cell (p:=⟨g',o'+j,none⟩) (World.block_lt_of_cell? wr _ c1) (by simp)).trans c1
   have HD:=Lib.hid (HU.out.trans_ext hd)
   have hltI:(j:Int)<ll:=by omega
   by_cases hxy:x=y
   ·subst hxy
    have HE2:Hid (∀q,q<j+1→xs[q]?=ys[q]?):=Lib.hid (fun q hq=>by
     by_cases hqj:q=j
     ·subst hqj;rw [hx,hy]
     ·exact HE.out q (by omega))
    clear hx hy hd HE
    go_wp2_with fail
    go_region
    all_goals (
     go_wp2_with fail
     go_roundw
     case rel=>exact⟨j+1,by omega,by go_num,HE2,HD⟩
     case measure=>simp [intOf];omega)
   ·have HF:Hid (R=false):=Lib.hid (by
     rw [←hR.out,decide_eq_false_iff_not]
     intro h
     rw [h,hy] at hx
     exact hxy (Option.some.inj hx).symm)
    have q1:(x==y)=false:=by simpa using hxy
    have q2:(x != y)=true:=by rw [bne,q1];rfl
    clear hx hy hd HE hxy
    go_wp2_with fail
    go_region
    all_goals (
     go_wp2_with fail
     go_ret
     rw [HF.out]
     exact⟨rfl,HD.out⟩)
  ·obtain rfl:j=ll:=by omega
   have hgeI:(j:Int)≥j:=by omega
   have HF:Hid (R=true):=Lib.hid (by
    rw [←hR.out,decide_eq_true_eq]
    apply List.ext_getElem?
    intro i
    by_cases hi:i<j
    ·exact HE.out i hi
    ·rw [List.getElem?_eq_none (by have:=HLL.out.1;omega),List.getElem?_eq_none (by have:=HLL.out.2;omega)])
   clear HE
   go_wp2
   go_ret
   rw [HF.out]
   exact⟨rfl,HU.out⟩
theorem eqf_calls (l l':List Nd) (a a':Option Addr) (c c':Nat) (P P':Nat→Prop) (w:World) (hl:l.length≤10000000) (_hl':l'.length≤10000000) (h:LsAt w P a l) (h':LsAt w P' a' l')
  (ih:∀x∈l,∀y∈l',∀u u' w1,NdV w1 P x u→NdV w1 P' y u'→Calls Tryz.prog 28 #[u,u'] w1 fun e w'=>e=.returned (.bool (kPx x y))∧Upto [] w1 w') :
  Calls Tryz.prog 61 #[.slice a l.length c,.slice a' l'.length c',.func (.func 28) #[] #[]] w fun e w'=>e=.returned (.bool (samesF l l'))∧Upto [] w w':=by
 have HG:=Lib.hid h
 have HG':=Lib.hid h'
 have HIH:=Lib.hid ih
 have HU0:=Lib.hid (Upto.refl [] w)
 clear h h' ih
 by_cases hne:l.length≠l'.length
 ·have HF:Hid (samesF l l'=false):=Lib.hid (by
   rw [Bool.eq_false_iff]
   intro e
   rw [samesF_eq] at e
   exact hne (by rw [e]))
  rw [HF.out]
  generalize hA:l.length=A at *
  generalize hB:l'.length=B at *
  have q1:((A:Int)==(B:Int))=false:=by rw [beq_eq_false_iff_ne];omega
  have q2:((A:Int) != (B:Int))=true:=by rw [bne,q1];rfl
  clear hne HF hA hB
  go_enter Tryz.func61,Tryz.ntmps61
  go_wp2_with fail
  go_ret
  exact⟨rfl,HU0.out⟩
 have hne:=Decidable.not_not.1 hne
 obtain⟨ll,hll⟩:∃ll,l.length=ll:=⟨_,rfl⟩
 have hll':l'.length=ll:=hne▸hll
 have HLL:=Lib.hid (And.intro hll hll')
 rw [hll,hll']
 have hL0:(0:Int)≤ll:=by omega
 have hL1:(ll:Int)≤10000000:=by omega
 clear hll hll' hl _hl' hne
 obtain⟨R,hR⟩:∃R,Hid (samesF l l'=R):=⟨_,Lib.hid rfl⟩
 rw [hR.out]
 go_enter Tryz.func61,Tryz.ntmps61
 go_wp2_with fail
 go_loopw [17] (fun i wr=>∃j:Nat,j≤ll∧i=.int .i64 j∧Hid (∀q x y,q<j→l[q]?=some x→l'[q]?=some y→x=y)∧Hid (Upto [] w wr)) (fun i _=>ll-(intOf i).toNat)
 case atStart=>exact⟨0,by omega,rfl,Lib.hid (fun q x y hq=>by omega),Lib.hid (Upto.refl _ _)⟩
 case round =>
  obtain⟨j,hj,rfl,HE,HU⟩:=hrel
  have hj0:(0:Int)≤j:=by omega
  rcases Nat.lt_or_ge j ll with hlt | hge
  ·obtain⟨x,hx⟩:∃x,l[j]?=some x:=⟨_,List.getElem?_eq_getElem (by have:=HLL.out.1;omega)⟩
   obtain⟨y,hy⟩:∃y,l'[j]?=some y:=⟨_,List.getElem?_eq_getElem (by have:=HLL.out.2;omega)⟩
   obtain⟨g,o,xo,xn1,xn2,xn3,xs,xm,xq,xl1,xl2,xl3,rfl,-⟩:=HG.out j x hx
   obtain⟨g',o',yo,yn1,yn2,yn3,ys,ym,yq,yl1,yl2,yl3,rfl,-⟩:=HG'.out j y hy
   obtain⟨g1,o1,xo,xn1,xn2,xn3,xs,xm,xq,xl1,xl2,xl3,e1,c0,c1,c2,c3,c4,c5,hn⟩:=(HG.out.ext HU.out) j x hx
   have hua:=(Upto.refl [] wr).alloc (.cells #[.int .i64 xo,.slice xn1 xn2 xn3,.int .i64 xs,.int .i64 xm,.int .i64 xq,.slice xl1 xl2 xl3] 34)
   obtain⟨g2,o2,yo,yn1,yn2,yn3,ys,ym,yq,yl1,yl2,yl3,e2,d0,d1,d2,d3,d4,d5,hn'⟩:=(HG'.out.ext (HU.out.trans_ext hua)) j y hy
   simp at e1 e2
   obtain⟨rfl,rfl⟩:=e1
   obtain⟨rfl,rfl⟩:=e2
   have hub:=(Upto.refl [] (wr.alloc (.cells #[.int .i64 xo,.slice xn1 xn2 xn3,.int .i64 xs,.int .i64 xm,.int .i64 xq,.slice xl1 xl2 xl3] 34))).alloc (.cells #[.int .i64 yo,.slice yn1 yn2 yn3,.int .i64 ys,.int .i64 ym,.int .i64 yq,.slice yl1 yl2 yl3] 34)
   have HC:=Lib.hid (HIH.out x (List.mem_of_getElem? hx) y (List.mem_of_getElem? hy) _ _ ((wr.alloc (.cells #[.int .i64 xo,.slice xn1 xn2 xn3,.int .i64 xs,.int .i64 xm,.int .i64 xq,.slice xl1 xl2 xl3] 34)).alloc (.cells #[.int .i64 yo,.slice yn1 yn2 yn3,.int .i64 ys,.int .i64 ym,.int .i64 yq,.slice yl1 yl2 yl3] 34)) ((hn.ext hua).ext hub) (hn'.ext hub))
   have HU2:=Lib.hid ((HU.out.trans_ext hua).trans_ext hub)
   have hv8:=hub.at (kAq wr (.cells #[.int .i64 xo,.slice xn1 xn2 xn3,.int .i64 xs,.int .i64 xm,.int .i64 xq,.slice xl1 xl2 xl3] 34)) (by simp)
   obtain⟨t0,t1,t2,t3,t4,t5⟩:=kAx hv8
   obtain⟨u0,u1,u2,u3,u4,u5⟩:=kDk hv8
   have hltI:(j:Int)<ll:=by omega
   have hbb:kPx x y=true∨kPx x y=false:=by cases kPx x y<;>simp
   rcases hbb with hb | hb
   ·have HE2:Hid (∀q x y,q<j+1→l[q]?=some x→l'[q]?=some y→x=y):=Lib.hid (fun q x' y' hq hx' hy'=>by
     by_cases hqi:q=j
     ·subst hqi
      rw [hx] at hx'
      rw [hy] at hy'
      cases hx'
      cases hy'
      exact (sameF_eq x y).1 hb
     ·exact HE.out q x' y' (by omega) hx' hy')
    rw [hb] at HC
    clear hx hy hn hn' hua hub hv8 hb HE
    go_wp2_with fail
    refine HC.out.mono ?_
    rintro e w5 ⟨rfl,hu5⟩
    have HU5:=Lib.hid (HU2.out.trans_ext hu5)
    clear hu5
    go_wp2_with fail
    go_roundw
    case rel=>exact⟨j+1,by omega,by go_num,HE2,HU5⟩
    case measure=>simp [intOf];omega
   ·have HF:Hid (R=false):=Lib.hid (by
     rw [←hR.out,Bool.eq_false_iff]
     intro h
     rw [samesF_eq] at h
     rw [h,hy] at hx
     have:=Option.some.inj hx
     subst this
     rw [(sameF_eq y y).2 rfl] at hb
     cases hb)
    rw [hb] at HC
    clear hx hy hn hn' hua hub hv8 hb HE
    go_wp2_with fail
    refine HC.out.mono ?_
    rintro e w5 ⟨rfl,hu5⟩
    have HU5:=Lib.hid (HU2.out.trans_ext hu5)
    clear hu5
    go_wp2_with fail
    go_ret
    rw [HF.out]
    exact⟨rfl,HU5.out⟩
  ·obtain rfl:j=ll:=by omega
   have hgeI:(j:Int)≥j:=by omega
   have HF:Hid (R=true):=Lib.hid (by
    rw [←hR.out,samesF_eq]
    apply List.ext_getElem?
    intro i
    by_cases hi:i<j
    ·obtain⟨x,hx⟩:∃x,l[i]?=some x:=⟨_,List.getElem?_eq_getElem (by have:=HLL.out.1;omega)⟩
     obtain⟨y,hy⟩:∃y,l'[i]?=some y:=⟨_,List.getElem?_eq_getElem (by have:=HLL.out.2;omega)⟩
     rw [hx,hy,HE.out i x y hi hx hy]
    ·rw [List.getElem?_eq_none (by have:=HLL.out.1;omega),List.getElem?_eq_none (by have:=HLL.out.2;omega)])
   clear HE
   go_wp2
   go_ret
   rw [HF.out]
   exact⟨rfl,HU.out⟩
theorem equal_calls:∀(k:Nat) (x:Nd),kCz x≤k→k≤10000000→bigN x→∀(y:Nd),kCz y≤10000000→bigN y→∀(P P':Nat→Prop) (v v':Value) (w:World),NdV w P x v→NdV w P' y v'→Calls Tryz.prog 28 #[v,v'] w fun e w'=>e=.returned (.bool (kPx x y))∧Upto [] w w'
 | 0,x,hk,_,_=>by have:=kJx x;omega
 | k+1,.mk op xs so n m ls,hk,hk7,hbg=>by
  intro y hy hbg' P P' v v' w h h'
  obtain⟨op',xs',so',n',m',ls'⟩:=y
  obtain⟨a1,c1,a2,c2,rfl,hs,hls⟩:=h.open
  obtain⟨b1,d1,b2,d2,rfl,hs',hls'⟩:=h'.open
  unfold bigN at hbg hbg'
  have hsz:kBk ls≤k:=by simp only [kCz] at hk;omega
  have hln:=kXj ls
  have hsz':kBk ls'≤10000000:=by simp only [kCz] at hy;omega
  have hln':=kXj ls'
  have hu2:Upto [] w ((w.alloc (.cells #[.int .i64 op,.slice a1 xs.length c1,.int .i64 so,.int .i64 n,.int .i64 m,.slice a2 ls.length c2] 34)).alloc (.cells #[.int .i64 op',.slice b1 xs'.length d1,.int .i64 so',.int .i64 n',.int .i64 m',.slice b2 ls'.length d2] 34)):=((Upto.refl [] w).alloc _).alloc _
  have HN:=Lib.hid (names_calls xs xs' _ _ P P' _ hbg.1 hbg'.1 (hs.ext hu2) (hs'.ext hu2))
  have HF:=Lib.hid (fun w1 (hu:Upto [] w w1)=>eqf_calls ls ls' a2 b2 c2 d2 P P' w1 (by omega) (by omega) (hls.ext hu) (hls'.ext hu) (fun x hx y hy u u' w2 hn hn'=>equal_calls k x (by have:=kSx hx;omega) (by omega) (bigs_mem hbg.2 hx) y (by have:=kSx hy;omega) (bigs_mem hbg'.2 hy) P P' u u' w2 hn hn'))
  have HU2:=Lib.hid hu2
  have hb1:=kCx (kAq w (.cells #[.int .i64 op,.slice a1 xs.length c1,.int .i64 so,.int .i64 n,.int .i64 m,.slice a2 ls.length c2] 34)) (.cells #[.int .i64 op',.slice b1 xs'.length d1,.int .i64 so',.int .i64 n',.int .i64 m',.slice b2 ls'.length d2] 34)
  have hb2:=kFz w (.cells #[.int .i64 op,.slice a1 xs.length c1,.int .i64 so,.int .i64 n,.int .i64 m,.slice a2 ls.length c2] 34) (.cells #[.int .i64 op',.slice b1 xs'.length d1,.int .i64 so',.int .i64 n',.int .i64 m',.slice b2 ls'.length d2] 34)
  have HB1:=Lib.hid hb1
  have HB2:=Lib.hid hb2
  obtain⟨x0,x1,x2,x3,x4,x5⟩:=kAx hb1
  obtain⟨y0,y1,y2,y3,y4,y5⟩:=kDk hb1
  obtain⟨z0,z1,z2,z3,z4,z5⟩:=kAx hb2
  obtain⟨t0,t1,t2,t3,t4,t5⟩:=kDk hb2
  clear hs hls hs' hls' hu2 h h' hb1 hb2 hbg hbg' hk hy hsz hsz' hln hln'
  by_cases e0:¬(op=op')
  ·have HF:Hid (kPx (.mk op xs so n m ls) (.mk op' xs' so' n' m' ls')=false):=Lib.hid (by unfold kPx;simp [e0])
   have q1:(op==op')=false:=by rw [beq_eq_false_iff_ne];exact e0
   have q2:(op != op')=true:=by rw [bne,q1];rfl
   clear e0
   go_enter Tryz.func28,Tryz.ntmps28
   go_wp2_with fail
   go_ret
   rw [HF.out]
   exact⟨rfl,HU2.out⟩
  have e0:=Decidable.not_not.1 e0
  subst e0
  have p0:(op==op)=true:=by simp
  by_cases e1:¬(so=so')
  ·have HF:Hid (kPx (.mk op xs so n m ls) (.mk op xs' so' n' m' ls')=false):=Lib.hid (by unfold kPx;simp [e1])
   have q1:(so==so')=false:=by rw [beq_eq_false_iff_ne];exact e1
   have q2:(so != so')=true:=by rw [bne,q1];rfl
   clear e1
   go_enter Tryz.func28,Tryz.ntmps28
   go_wp2_with fail
   go_ret
   rw [HF.out]
   exact⟨rfl,HU2.out⟩
  have e1:=Decidable.not_not.1 e1
  subst e1
  have p1:(so==so)=true:=by simp
  by_cases e2:¬(n=n')
  ·have HF:Hid (kPx (.mk op xs so n m ls) (.mk op xs' so n' m' ls')=false):=Lib.hid (by unfold kPx;simp [e2])
   have q1:(n==n')=false:=by rw [beq_eq_false_iff_ne];exact e2
   have q2:(n != n')=true:=by rw [bne,q1];rfl
   clear e2
   go_enter Tryz.func28,Tryz.ntmps28
   go_wp2_with fail
   go_ret
   rw [HF.out]
   exact⟨rfl,HU2.out⟩
  have e2:=Decidable.not_not.1 e2
  subst e2
  have p2:(n==n)=true:=by simp
  by_cases e3:¬(m=m')
  ·have HF:Hid (kPx (.mk op xs so n m ls) (.mk op xs' so n m' ls')=false):=Lib.hid (by unfold kPx;simp [e3])
   have q1:(m==m')=false:=by rw [beq_eq_false_iff_ne];exact e3
   have q2:(m != m')=true:=by rw [bne,q1];rfl
   clear e3
   go_enter Tryz.func28,Tryz.ntmps28
   go_wp2_with fail
   go_ret
   rw [HF.out]
   exact⟨rfl,HU2.out⟩
  have e3:=Decidable.not_not.1 e3
  subst e3
  have p3:(m==m)=true:=by simp
  by_cases e4:¬(xs=xs')
  ·have HR:Hid (kPx (.mk op xs so n m ls) (.mk op xs' so n m ls')=false):=Lib.hid (by unfold kPx;simp [e4])
   have hd:decide (xs=xs')=false:=by simpa using e4
   rw [hd] at HN
   clear e4 hd
   go_enter Tryz.func28,Tryz.ntmps28
   go_wp2_with fail
   refine HN.out.mono ?_
   rintro e w2 ⟨rfl,hu2⟩
   have HU3:=Lib.hid (HU2.out.trans_ext hu2)
   clear hu2
   go_wp2_with fail
   go_ret
   rw [HR.out]
   exact⟨rfl,HU3.out⟩
  have e4:=Decidable.not_not.1 e4
  subst e4
  have hd:decide (xs=xs)=true:=by simp
  have HR:Hid (kPx (.mk op xs so n m ls) (.mk op xs so n m ls')=samesF ls ls'):=Lib.hid (by unfold kPx;simp)
  rw [hd] at HN
  clear hd
  rw [HR.out]
  generalize samesF ls ls'=R at *
  go_enter Tryz.func28,Tryz.ntmps28
  go_wp2_with fail
  refine HN.out.mono ?_
  rintro e w2 ⟨rfl,hu2⟩
  have hb1:=hu2.at HB1.out (by simp)
  have hb2:=hu2.at HB2.out (by simp)
  obtain⟨u0,u1,u2,u3,u4,u5⟩:=kAx hb1
  obtain⟨uf0,uf1,uf2,uf3,uf4,uf5⟩:=kDk hb1
  obtain⟨r0,r1,r2,r3,r4,r5⟩:=kAx hb2
  obtain⟨rf0,rf1,rf2,rf3,rf4,rf5⟩:=kDk hb2
  have HC:=Lib.hid (HF.out w2 (HU2.out.trans_ext hu2))
  have HU3:=Lib.hid (HU2.out.trans_ext hu2)
  clear hu2 hb1 hb2
  go_wp2_with fail
  refine HC.out.mono ?_
  rintro e w3 ⟨rfl,hu3⟩
  have HU4:=Lib.hid (HU3.out.trans_ext hu3)
  clear hu3
  go_wp2_with fail
  go_ret
  exact⟨rfl,HU4.out⟩
def kYx (q q':Qn):Bool:=decide (q.free=q'.free)&&kPx q.body q'.body
theorem alikeF_eq (q q':Qn):kYx q q'=true↔q=q':=by
 unfold kYx
 rw [Bool.and_eq_true,decide_eq_true_eq,sameF_eq]
 cases q;cases q'
 simp
theorem fmpost_fin {w W:World} {Bq Bp:Nat} {r:PR} {P:Nat→Prop} {a b c d e f x0 x1 x2 x3 x4 x5 y0 y1:Value} (hu:Upto [] w W) (hBq:w.heap.size≤Bq) (hBp:w.heap.size≤Bp) (hne:Bq≠Bp) (hn:NdV W P r.q.body (.agg #[a,b,c,d,e,f]))
  (hP:∀b,P b→IsC W b→New w b∧b≠Bq∧b≠Bp) (hz:W.heap[Bq]?=some (.cells #[x0,x1,x2,x3,x4,x5] 34 (0,0))) (hy:W.heap[Bp]?=some (.cells #[y0,y1] 36 (0,0))) :
  FmPost w r (.returned (.tuple #[.agg #[a,b,c,d,e,f],.agg #[.int .i64 r.line,.int .i64 r.col],.int .i64 r.er])) ((((((((W.setCell ⟨Bq,0,none⟩ a).setCell ⟨Bq,1,none⟩ b).setCell ⟨Bq,2,none⟩ c).setCell ⟨Bq,3,none⟩ d).setCell ⟨Bq,4,none⟩ e).setCell ⟨Bq,5,none⟩ f).setCell ⟨Bp,0,none⟩ (.int .i64 r.line)).setCell ⟨Bp,1,none⟩ (.int .i64 r.col)) ∧
  ((((((((W.setCell ⟨Bq,0,none⟩ a).setCell ⟨Bq,1,none⟩ b).setCell ⟨Bq,2,none⟩ c).setCell ⟨Bq,3,none⟩ d).setCell ⟨Bq,4,none⟩ e).setCell ⟨Bq,5,none⟩ f).setCell ⟨Bp,0,none⟩ (.int .i64 r.line)).setCell ⟨Bp,1,none⟩ (.int .i64 r.col)).heap[Bq]?=some (.cells #[a,b,c,d,e,f] 34 (0,0))∧((((((((W.setCell ⟨Bq,0,none⟩ a).setCell ⟨Bq,1,none⟩ b).setCell ⟨Bq,2,none⟩ c).setCell ⟨Bq,3,none⟩ d).setCell ⟨Bq,4,none⟩ e).setCell ⟨Bq,5,none⟩ f).setCell ⟨Bp,0,none⟩ (.int .i64 r.line)).setCell ⟨Bp,1,none⟩ (.int .i64 r.col)).heap[Bp]?=some (.cells #[.int .i64 r.line,.int .i64 r.col] 36 (0,0)):=by
 have h7:=kEz hz a b c d e f
 have u7:=nd_self W Bq a b c d e f
 have hy7:=u7.at hy (by simp;omega)
 have u2:Upto [Bp] ((((((W.setCell ⟨Bq,0,none⟩ a).setCell ⟨Bq,1,none⟩ b).setCell ⟨Bq,2,none⟩ c).setCell ⟨Bq,3,none⟩ d).setCell ⟨Bq,4,none⟩ e).setCell ⟨Bq,5,none⟩ f) ((((((((W.setCell ⟨Bq,0,none⟩ a).setCell ⟨Bq,1,none⟩ b).setCell ⟨Bq,2,none⟩ c).setCell ⟨Bq,3,none⟩ d).setCell ⟨Bq,4,none⟩ e).setCell ⟨Bq,5,none⟩ f).setCell ⟨Bp,0,none⟩ (.int .i64 r.line)).setCell ⟨Bp,1,none⟩ (.int .i64 r.col)):=((Upto.refl _ _).setCell (Or.inl (by simp)) _).setCell (Or.inl (by simp)) _
 have h2:=p_store hy7 (.int .i64 r.line) (.int .i64 r.col)
 refine⟨⟨_,rfl,NdV.keep ⟨Nat.le_trans u7.size u2.size,fun b hb hl=>?_⟩ _ _ hn,((nd_up hu (Or.inr hBq) a b c d e f).setCell (Or.inr (by simpa using hBp)) _).setCell (Or.inr (by simpa using hBp)) _⟩,u2.at h7 (by simpa using hne),h2⟩
 obtain⟨k1,k2,k3⟩:=hP b hb hl
 exact⟨k1,(u2.block b (Nat.lt_of_lt_of_le hl.lt u7.size) (by simpa using k3)).trans (u7.block b hl.lt (by simpa using k2))⟩
theorem parseFormula_calls (x:List UInt8) (hl:x.length≤281474976710656) (w:World) (he:Env w) (hs:SEnv w):Calls Tryz.prog 22 #[.string ⟨x.toArray⟩] w (FmPost w (kGx bareP x)):=by
 have hu0:Upto [] w ((w.alloc (.cells #[.int .i64 0,.slice none 0 0,.int .i64 0,.int .i64 0,.int .i64 0,.slice none 0 0] 34)).alloc (.cells #[.int .i64 0,.int .i64 0] 36)):=((Upto.refl [] w).alloc _).alloc _
 have HU0:=Lib.hid hu0
 have HBQ:Hid (((w.alloc (.cells #[.int .i64 0,.slice none 0 0,.int .i64 0,.int .i64 0,.int .i64 0,.slice none 0 0] 34)).alloc (.cells #[.int .i64 0,.int .i64 0] 36)).heap[w.heap.size]?=some (.cells #[.int .i64 0,.slice none 0 0,.int .i64 0,.int .i64 0,.int .i64 0,.slice none 0 0] 34 (0,0))):=Lib.hid (kCx (kAq _ _) _)
 have HBP:Hid (((w.alloc (.cells #[.int .i64 0,.slice none 0 0,.int .i64 0,.int .i64 0,.int .i64 0,.slice none 0 0] 34)).alloc (.cells #[.int .i64 0,.int .i64 0] 36)).heap[w.heap.size+1]?=some (.cells #[.int .i64 0,.int .i64 0] 36 (0,0))):=Lib.hid (kFz _ _ _)
 have HC:=Lib.hid (read_calls x hl 57 bareP ((w.alloc (.cells #[.int .i64 0,.slice none 0 0,.int .i64 0,.int .i64 0,.int .i64 0,.slice none 0 0] 34)).alloc (.cells #[.int .i64 0,.int .i64 0] 36)) (he.ext hu0) (hs.upto hu0 (by simp)) (kMq Tryz.func57 (by kernel_rfl) rfl)
  (fun l hf h0=>by obtain⟨q,s',e,a,z,-⟩:=bareP_ok hf h0;exact⟨q,s',e,a,z⟩)
  (fun w p l q s' htx hX hR hqp=>bare1_calls w p l htx ⟨0,0,0⟩ s' q hX hR (by decide) hqp))
 clear hu0 he hs
 go_enter Tryz.func22,Tryz.ntmps22
 go_wp2_with fail
 refine HC.out.mono ?_
 rintro e w2 ⟨vv,rfl,hqv,hu2⟩
 obtain⟨g1,g2,g3,oa,na1,na2,na3,sa,ma,qa,la1,la2,la3,rfl⟩:=hqv.seven
 obtain⟨vf,a0,a1,a2,a3,a4,a5,eqn,-,hnv⟩:=hqv
 simp only [Value.agg.injEq,Array.mk.injEq,List.cons.injEq,and_true] at eqn
 obtain⟨rfl,rfl,rfl,rfl,rfl,rfl,rfl⟩:=eqn
 have hua:=((Upto.refl [] w2).alloc (.cells #[.slice g1 g2 g3,.int .i64 oa,.slice na1 na2 na3,.int .i64 sa,.int .i64 ma,.int .i64 qa,.slice la1 la2 la3] 48)).alloc (.cells #[.int .i64 (kGx bareP x).line,.int .i64 (kGx bareP x).col] 36)
 have hbq:=hua.at (hu2.at HBQ.out (by simp)) (by simp)
 have hbp:=hua.at (hu2.at HBP.out (by simp)) (by simp)
 have hb5:((w2.alloc (.cells #[.slice g1 g2 g3,.int .i64 oa,.slice na1 na2 na3,.int .i64 sa,.int .i64 ma,.int .i64 qa,.slice la1 la2 la3] 48)).alloc (.cells #[.int .i64 (kGx bareP x).line,.int .i64 (kGx bareP x).col] 36)).heap[w2.heap.size]?=some (.cells #[.slice g1 g2 g3,.int .i64 oa,.slice na1 na2 na3,.int .i64 sa,.int .i64 ma,.int .i64 qa,.slice la1 la2 la3] 48 (0,0)):=kCx (kAq _ _) _
 have hb6:((w2.alloc (.cells #[.slice g1 g2 g3,.int .i64 oa,.slice na1 na2 na3,.int .i64 sa,.int .i64 ma,.int .i64 qa,.slice la1 la2 la3] 48)).alloc (.cells #[.int .i64 (kGx bareP x).line,.int .i64 (kGx bareP x).col] 36)).heap[w2.heap.size+1]?=some (.cells #[.int .i64 (kGx bareP x).line,.int .i64 (kGx bareP x).col] 36 (0,0)):=kFz _ _ _
 obtain⟨z0,z1,z2,z3,z4,z5⟩:=kAx hbq
 obtain⟨y0,y1,y2,y3,y4,y5⟩:=kDk hbq
 obtain⟨d0,d1⟩:=kKx hbp
 obtain⟨f0,f1⟩:=kRz hbp
 obtain⟨g0,g1,g2,g3,g4,g5,g6⟩:=kBw hb5
 obtain⟨h0,h1,h2,h3,h4,h5,h6⟩:=kRk hb5
 obtain⟨i0,i1⟩:=kKx hb6
 obtain⟨j0,j1⟩:=kRz hb6
 have hbqd:=((Upto.refl [] _).drew).at hbq (by simp)
 obtain⟨zz0,zz1,zz2,zz3,zz4,zz5⟩:=kAx hbqd
 obtain⟨yy0,yy1,yy2,yy3,yy4,yy5⟩:=kDk hbqd
 clear hbqd
 have hbpd:=((Upto.refl [] _).drew).at hbp (by simp)
 obtain⟨dd0,dd1⟩:=kKx hbpd
 obtain⟨ff0,ff1⟩:=kRz hbpd
 clear hbpd
 have hb5d:=((Upto.refl [] _).drew).at hb5 (by simp)
 obtain⟨gg0,gg1,gg2,gg3,gg4,gg5,gg6⟩:=kBw hb5d
 obtain⟨hh0,hh1,hh2,hh3,hh4,hh5,hh6⟩:=kRk hb5d
 clear hb5d
 have hb6d:=((Upto.refl [] _).drew).at hb6 (by simp)
 obtain⟨ii0,ii1⟩:=kKx hb6d
 obtain⟨jj0,jj1⟩:=kRz hb6d
 clear hb6d
 have hz2:=kAk (hu2.at HBP.out (by simp))
 have n1:w.heap.size≠w2.heap.size:=by omega
 have n2:w.heap.size≠w2.heap.size+1:=by omega
 have n3:w.heap.size+1≠w2.heap.size:=by omega
 have n4:w.heap.size+1≠w2.heap.size+1:=by omega
 have n5:=n1.symm
 have n6:=n2.symm
 have n7:=n3.symm
 have n8:=n4.symm
 have HF:=Lib.hid (fmpost_fin (r:=kGx bareP x) (P:=New ((w.alloc (.cells #[.int .i64 0,.slice none 0 0,.int .i64 0,.int .i64 0,.int .i64 0,.slice none 0 0] 34)).alloc (.cells #[.int .i64 0,.int .i64 0] 36))) ((HU0.out.trans_ext hu2).trans_ext hua) (Nat.le_refl _) (by omega:w.heap.size≤w.heap.size+1) (by omega) (hnv.ext hua) (fun b hb _=>by unfold New at hb ⊢;simp at hb;omega) hbq hbp)
 clear hbq hbp hb5 hb6 hu2 hnv hua hz2 HC
 go_wp2_with fail
 go_region
 all_goals (
  go_wp2_with fail
  have hb7:=((Upto.refl [] _).drew).at HF.out.2.1 (by simp)
  have hb2:=((Upto.refl [] _).drew).at HF.out.2.2 (by simp)
  have q0:=kAz hb7 0
  have q1:=kAz hb7 1
  have q2:=kAz hb7 2
  have q3:=kAz hb7 3
  have q4:=kAz hb7 4
  have q5:=kAz hb7 5
  have p0:=kAz hb2 0
  have p1:=kAz hb2 1
  simp only [List.getElem?_toArray,List.getElem?_cons_zero,List.getElem?_cons_succ] at q0 q1 q2 q3 q4 q5 p0 p1
  exact bodyPost_ret (v:=.tuple #[.agg #[.int .i64 oa,.slice na1 na2 na3,.int .i64 sa,.int .i64 ma,.int .i64 qa,.slice la1 la2 la3],.agg #[.int .i64 (kGx bareP x).line,.int .i64 (kGx bareP x).col],.int .i64 (kGx bareP x).er]) (by simp [results,Tryz.results22,go_sem,q0,q1,q2,q3,q4,q5,p0,p1]) rfl HF.out.1.drew)
def refW:List (List UInt8):=[[116,114,117,101],[102,97,108,115,101],[61],[105,110],[115,117,98],[97,100,106],[111,110],[105,115],[115,105,122,101],[111,110,101],[],[110,111,116],[97,110,100],[111,114],[105,109,112,108,105,101,115],[105,102,102],[115,111,109,101],[101,118,101,114,121]]
theorem refW_at:∀k:_root_.Fin 18,(7≤k.val∧k.val<11)∨refW.getD k.val []=wordsF.getD k.val []:=by decide +kernel
theorem refW_word {k:Nat} (h:k<18) (h7:k<7∨11≤k):refW.getD k []=wordsF.getD k []:=by
 rcases refW_at ⟨k,h⟩ with h1 | h1
 ·simp only at h1;omega
 ·exact h1
theorem word_calls (k:Nat) (hk:k<18) (w:World):Calls Tryz.prog 114 #[.int .i64 (k:Int)] w fun e w'=>e=.returned (.string ⟨(refW.getD k []).toArray⟩)∧Upto [] w w':=by
 have HU:Hid (Upto [] w (w.alloc (.cells #[.string ⟨#[116,114,117,101]⟩,.string ⟨#[102,97,108,115,101]⟩,.string ⟨#[61]⟩,.string ⟨#[105,110]⟩,.string ⟨#[115,117,98]⟩,.string ⟨#[97,100,106]⟩,.string ⟨#[111,110]⟩,.string ⟨#[105,115]⟩,.string ⟨#[115,105,122,101]⟩,.string ⟨#[111,110,101]⟩,.string ⟨#[]⟩,.string ⟨#[110,111,116]⟩,.string ⟨#[97,110,100]⟩,.string ⟨#[111,114]⟩,.string ⟨#[105,109,112,108,105,101,115]⟩,.string ⟨#[105,102,102]⟩,.string ⟨#[115,111,109,101]⟩,.string ⟨#[101,118,101,114,121]⟩] 9))):=Lib.hid ((Upto.refl [] w).alloc _)
 obtain⟨W,hW⟩:∃W,refW.getD k []=W:=⟨_,rfl⟩
 have hc:(w.alloc (.cells #[.string ⟨#[116,114,117,101]⟩,.string ⟨#[102,97,108,115,101]⟩,.string ⟨#[61]⟩,.string ⟨#[105,110]⟩,.string ⟨#[115,117,98]⟩,.string ⟨#[97,100,106]⟩,.string ⟨#[111,110]⟩,.string ⟨#[105,115]⟩,.string ⟨#[115,105,122,101]⟩,.string ⟨#[111,110,101]⟩,.string ⟨#[]⟩,.string ⟨#[110,111,116]⟩,.string ⟨#[97,110,100]⟩,.string ⟨#[111,114]⟩,.string ⟨#[105,109,112,108,105,101,115]⟩,.string ⟨#[105,102,102]⟩,.string ⟨#[115,111,109,101]⟩,.string ⟨#[101,118,101,114,121]⟩] 9)).cell? ⟨w.heap.size,k,none⟩=some (.string ⟨W.toArray⟩):=by
  rw [kAz (kAq w _),←hW]
  show (refW.map sV).toArray[k]?=_
  rw [List.getElem?_toArray,List.getElem?_map,List.getD_eq_getElem?_getD]
  obtain⟨z,hz⟩:∃z,refW[k]?=some z:=⟨_,List.getElem?_eq_getElem (by simpa [refW] using hk)⟩
  rw [hz]
  rfl
 rw [hW]
 have q0:(0:Int)≤k:=by omega
 have q1:(k:Int)<18:=by omega
 clear hW hk
 go_enter Tryz.func114,Tryz.ntmps114
 go_wp2_with fail
 go_ret
 exact⟨rfl,HU.out⟩
theorem rdig1_calls (k:Nat) (hk:k<10) (w:World):Calls Tryz.prog 136 #[.int .i64 k] w fun e w'=>e=.returned (.string ⟨#[UInt8.ofNat (48+k)]⟩)∧Upto [] w w':=by
 have hcv:=conv_dig w k hk
 have q0:(k:Int)<10:=by omega
 have q1:(0:Int)≤k:=by omega
 have HU:=Lib.hid ((Upto.refl [] w).alloc (.cells #[.int .u8 (48+(k:Int))] 5))
 go_enter Tryz.func136,Tryz.ntmps136
 go_wp2_with fail
 go_ret
 exact⟨by rw [show UInt8.ofNat (48+k)=48+UInt8.ofNat k from by simp [UInt8.ofNat_add]];rfl,HU.out⟩
theorem rdig2_calls (a b:Nat) (ha:1≤a∧a<10) (hb:b<10) (n:Int) (hn:n=10*a+b) (w:World):Calls Tryz.prog 136 #[.int .i64 n] w fun e w'=>e=.returned (.string ⟨#[UInt8.ofNat (48+a),UInt8.ofNat (48+b)]⟩)∧Upto [] w w':=by
 have q0:¬n<10:=by omega
 have t0:n.tdiv 10=(a:Int):=by rw [Int.tdiv_eq_ediv_of_nonneg (by omega)];omega
 have t1:n.tmod 10=(b:Int):=by rw [Int.tmod_eq_emod_of_nonneg (by omega)];omega
 have t2:n / 10=(a:Int):=by omega
 have t3:n % 10=(b:Int):=by omega
 have hcv:∀wr:World,(convert 115 9 (.slice (some ⟨wr.heap.size,0,none⟩) 1 1)).run Tryz.prog (wr.alloc (.cells #[.int .u8 (48+(b:Int))] 5))=.ok (.string ⟨#[UInt8.ofNat (48+b)]⟩) (wr.alloc (.cells #[.int .u8 (48+(b:Int))] 5)):=fun wr=>conv_dig wr b hb
 have HD:=Lib.hid (fun u:World=>rdig1_calls a ha.2 u)
 have q1:(0:Int)≤a:=by omega
 have q2:(a:Int)≤9:=by omega
 have q3:(0:Int)≤b:=by omega
 have q4:(b:Int)≤9:=by omega
 have hwa:IntKind.i64.wrap (a:Int)=a:=(show ∀x:_root_.Fin 10,IntKind.i64.wrap (x.val:Int)=x.val by decide) ⟨a,ha.2⟩
 have hwb:IntKind.i64.wrap (48+(b:Int))=48+b:=(show ∀x:_root_.Fin 10,IntKind.i64.wrap (48+(x.val:Int))=48+x.val by decide) ⟨b,hb⟩
 have hwc:IntKind.u8.wrap (48+(b:Int))=48+b:=(show ∀x:_root_.Fin 10,IntKind.u8.wrap (48+(x.val:Int))=48+x.val by decide) ⟨b,hb⟩
 clear hn
 have HCV:=Lib.hid hcv
 clear hcv
 go_enter Tryz.func136,Tryz.ntmps136
 go_wp2_with fail
 have h0:=HCV.out w.drew
 have h1:=conv_byte (w.alloc (.cells #[.int .u8 (48+(b:Int))] 5)).drew w.heap.size b hb (kAz (kAq w (.cells #[.int .u8 (48+(b:Int))] 5)) 0)
 go_region_with (
   go_at_call 136
   refine (HD.out _).mono ?_
   rintro e w2 ⟨rfl,hu5⟩
   have hcv2:=HCV.out w2
   try have hcv3:=conv_byte w2 w.heap.size b hb ((hu5.cell (p:=⟨w.heap.size,0,none⟩) (by simp) (by simp)).trans (kAz (kAq w (.cells #[.int .u8 (48+(b:Int))] 5)) 0))
   try have hcv4:=HCV.out w2.drew)
 all_goals (
  have hup:Upto [] w w2:=by first | exact (Upto.refl [] w).drew.trans_ext hu5 | exact (((Upto.refl [] w).alloc _).drew).trans_ext hu5 | exact ((Upto.refl [] w).alloc _).trans_ext hu5
  have HUP:=Lib.hid (hup.alloc (.cells #[.int .u8 (48+(b:Int))] 5))
  have HUQ:=Lib.hid hup
  clear hu5 hup
  go_wp2
  go_ret
  exact⟨congrArg (fun z=>Ending.returned (.string z)) (by rw [show UInt8.ofNat (48+a)=48+UInt8.ofNat a from by simp [UInt8.ofNat_add],show UInt8.ofNat (48+b)=48+UInt8.ofNat b from by simp [UInt8.ofNat_add]];exact ByteArray.mk_append_mk [_] [_]),by first | exact HUQ.out | exact HUP.out | exact HUQ.out.drew | exact HUP.out.drew⟩)
theorem rdigits_calls (n:Nat) (h:n≤64) (w:World):Calls Tryz.prog 136 #[.int .i64 (n:Int)] w fun e w'=>e=.returned (.string ⟨(digF 3 n).toArray⟩)∧Upto [] w w':=by
 by_cases h1:n<10
 ·have e:digF 3 n=[UInt8.ofNat (48+n)]:=by simp [digF,h1]
  rw [e]
  exact rdig1_calls n h1 w
 ·have e:digF 3 n=[UInt8.ofNat (48+n / 10),UInt8.ofNat (48+n % 10)]:=by
   have h2:n / 10<10:=by omega
   simp [digF,h1,h2]
  rw [e]
  exact rdig2_calls (n / 10) (n % 10) (by omega) (by omega) n (by omega) w
theorem need_out (op place:Int) (c so nn mm:Int) (b1:Option Addr) (b2 b3:Nat) (d1:Option Addr) (d2 d3:Nat) (w:World) (h:c<11∨15<c):Calls Tryz.prog 137 #[.int .i64 op,.int .i64 place,.agg #[.int .i64 c,.slice b1 b2 b3,.int .i64 so,.int .i64 nn,.int .i64 mm,.slice d1 d2 d3]] w fun e w'=>e=.returned (.bool false)∧Upto [] w w':=by
 have HU:Hid (Upto [] w (w.alloc (.cells #[.int .i64 c,.slice b1 b2 b3,.int .i64 so,.int .i64 nn,.int .i64 mm,.slice d1 d2 d3] 25))):=Lib.hid ((Upto.refl [] w).alloc _)
 by_cases h1:c<11
 ·clear h
  go_enter Tryz.func137,Tryz.ntmps137
  go_wp2_with fail
  go_ret
  exact⟨rfl,HU.out⟩
 ·have h2:15<c:=by omega
  clear h
  go_enter Tryz.func137,Tryz.ntmps137
  go_wp2_with fail
  go_ret
  exact⟨rfl,HU.out⟩
theorem need_11 (place:Nat) (hp:place<2) (c so nn mm:Int) (b1:Option Addr) (b2 b3:Nat) (d1:Option Addr) (d2 d3:Nat) (w:World) (h1:11≤c) (h2:c≤15):Calls Tryz.prog 137 #[.int .i64 11,.int .i64 (place:Int),.agg #[.int .i64 c,.slice b1 b2 b3,.int .i64 so,.int .i64 nn,.int .i64 mm,.slice d1 d2 d3]] w fun e w'=>e=.returned (.bool (kMz 11 place c))∧Upto [] w w':=by
 have HU:Hid (Upto [] w (w.alloc (.cells #[.int .i64 c,.slice b1 b2 b3,.int .i64 so,.int .i64 nn,.int .i64 mm,.slice d1 d2 d3] 25))):=Lib.hid ((Upto.refl [] w).alloc _)
 have hp2:place=0∨place=1:=by omega
 have hc:c=11∨c=12∨c=13∨c=14∨c=15:=by omega
 clear hp h1 h2
 rcases hp2 with rfl | rfl<;>rcases hc with rfl | rfl | rfl | rfl | rfl
 all_goals
  go_enter Tryz.func137,Tryz.ntmps137
  go_wp2_with fail
  go_ret
  exact⟨rfl,HU.out⟩
theorem need_12 (place:Nat) (hp:place<2) (c so nn mm:Int) (b1:Option Addr) (b2 b3:Nat) (d1:Option Addr) (d2 d3:Nat) (w:World) (h1:11≤c) (h2:c≤15):Calls Tryz.prog 137 #[.int .i64 12,.int .i64 (place:Int),.agg #[.int .i64 c,.slice b1 b2 b3,.int .i64 so,.int .i64 nn,.int .i64 mm,.slice d1 d2 d3]] w fun e w'=>e=.returned (.bool (kMz 12 place c))∧Upto [] w w':=by
 have HU:Hid (Upto [] w (w.alloc (.cells #[.int .i64 c,.slice b1 b2 b3,.int .i64 so,.int .i64 nn,.int .i64 mm,.slice d1 d2 d3] 25))):=Lib.hid ((Upto.refl [] w).alloc _)
 have hp2:place=0∨place=1:=by omega
 have hc:c=11∨c=12∨c=13∨c=14∨c=15:=by omega
 clear hp h1 h2
 rcases hp2 with rfl | rfl<;>rcases hc with rfl | rfl | rfl | rfl | rfl
 all_goals
  go_enter Tryz.func137,Tryz.ntmps137
  go_wp2_with fail
  go_ret
  exact⟨rfl,HU.out⟩
theorem need_13 (place:Nat) (hp:place<2) (c so nn mm:Int) (b1:Option Addr) (b2 b3:Nat) (d1:Option Addr) (d2 d3:Nat) (w:World) (h1:11≤c) (h2:c≤15):Calls Tryz.prog 137 #[.int .i64 13,.int .i64 (place:Int),.agg #[.int .i64 c,.slice b1 b2 b3,.int .i64 so,.int .i64 nn,.int .i64 mm,.slice d1 d2 d3]] w fun e w'=>e=.returned (.bool (kMz 13 place c))∧Upto [] w w':=by
 have HU:Hid (Upto [] w (w.alloc (.cells #[.int .i64 c,.slice b1 b2 b3,.int .i64 so,.int .i64 nn,.int .i64 mm,.slice d1 d2 d3] 25))):=Lib.hid ((Upto.refl [] w).alloc _)
 have hp2:place=0∨place=1:=by omega
 have hc:c=11∨c=12∨c=13∨c=14∨c=15:=by omega
 clear hp h1 h2
 rcases hp2 with rfl | rfl<;>rcases hc with rfl | rfl | rfl | rfl | rfl
 all_goals
  go_enter Tryz.func137,Tryz.ntmps137
  go_wp2_with fail
  go_ret
  exact⟨rfl,HU.out⟩
theorem need_14 (place:Nat) (hp:place<2) (c so nn mm:Int) (b1:Option Addr) (b2 b3:Nat) (d1:Option Addr) (d2 d3:Nat) (w:World) (h1:11≤c) (h2:c≤15):Calls Tryz.prog 137 #[.int .i64 14,.int .i64 (place:Int),.agg #[.int .i64 c,.slice b1 b2 b3,.int .i64 so,.int .i64 nn,.int .i64 mm,.slice d1 d2 d3]] w fun e w'=>e=.returned (.bool (kMz 14 place c))∧Upto [] w w':=by
 have HU:Hid (Upto [] w (w.alloc (.cells #[.int .i64 c,.slice b1 b2 b3,.int .i64 so,.int .i64 nn,.int .i64 mm,.slice d1 d2 d3] 25))):=Lib.hid ((Upto.refl [] w).alloc _)
 have hp2:place=0∨place=1:=by omega
 have hc:c=11∨c=12∨c=13∨c=14∨c=15:=by omega
 clear hp h1 h2
 rcases hp2 with rfl | rfl<;>rcases hc with rfl | rfl | rfl | rfl | rfl
 all_goals
  go_enter Tryz.func137,Tryz.ntmps137
  go_wp2_with fail
  go_ret
  exact⟨rfl,HU.out⟩
theorem need_15 (place:Nat) (hp:place<2) (c so nn mm:Int) (b1:Option Addr) (b2 b3:Nat) (d1:Option Addr) (d2 d3:Nat) (w:World) (h1:11≤c) (h2:c≤15):Calls Tryz.prog 137 #[.int .i64 15,.int .i64 (place:Int),.agg #[.int .i64 c,.slice b1 b2 b3,.int .i64 so,.int .i64 nn,.int .i64 mm,.slice d1 d2 d3]] w fun e w'=>e=.returned (.bool (kMz 15 place c))∧Upto [] w w':=by
 have HU:Hid (Upto [] w (w.alloc (.cells #[.int .i64 c,.slice b1 b2 b3,.int .i64 so,.int .i64 nn,.int .i64 mm,.slice d1 d2 d3] 25))):=Lib.hid ((Upto.refl [] w).alloc _)
 have hp2:place=0∨place=1:=by omega
 have hc:c=11∨c=12∨c=13∨c=14∨c=15:=by omega
 clear hp h1 h2
 rcases hp2 with rfl | rfl<;>rcases hc with rfl | rfl | rfl | rfl | rfl
 all_goals
  go_enter Tryz.func137,Tryz.ntmps137
  go_wp2_with fail
  go_ret
  exact⟨rfl,HU.out⟩
theorem needed_calls (op:Int) (h1:11≤op) (h2:op≤15) (place:Nat) (hp:place<2) (c so nn mm:Int) (b1:Option Addr) (b2 b3:Nat) (d1:Option Addr) (d2 d3:Nat) (w:World):Calls Tryz.prog 137 #[.int .i64 op,.int .i64 (place:Int),.agg #[.int .i64 c,.slice b1 b2 b3,.int .i64 so,.int .i64 nn,.int .i64 mm,.slice d1 d2 d3]] w fun e w'=>e=.returned (.bool (kMz op place c))∧Upto [] w w':=by
 by_cases h:c<11∨15<c
 ·have:kMz op place c=false:=by unfold kMz;rw [if_pos h]
  rw [this]
  exact need_out op place c so nn mm b1 b2 b3 d1 d2 d3 w h
 ·have ho:op=11∨op=12∨op=13∨op=14∨op=15:=by omega
  rcases ho with rfl | rfl | rfl | rfl | rfl
  ·exact need_11 place hp c so nn mm b1 b2 b3 d1 d2 d3 w (by omega) (by omega)
  ·exact need_12 place hp c so nn mm b1 b2 b3 d1 d2 d3 w (by omega) (by omega)
  ·exact need_13 place hp c so nn mm b1 b2 b3 d1 d2 d3 w (by omega) (by omega)
  ·exact need_14 place hp c so nn mm b1 b2 b3 d1 d2 d3 w (by omega) (by omega)
  ·exact need_15 place hp c so nn mm b1 b2 b3 d1 d2 d3 w (by omega) (by omega)
theorem ratom_true (so nn mm:Int) (b1:Option Addr) (b2 b3:Nat) (d1:Option Addr) (d2 d3:Nat) (w:World):Calls Tryz.prog 111 #[.agg #[.int .i64 0,.slice b1 b2 b3,.int .i64 so,.int .i64 nn,.int .i64 mm,.slice d1 d2 d3]] w fun e w'=>e=.returned (.string ⟨([116,114,117,101]:List UInt8).toArray⟩)∧Upto [] w w':=by
 have HU:Hid (Upto [] w (w.alloc (.cells #[.int .i64 0,.slice b1 b2 b3,.int .i64 so,.int .i64 nn,.int .i64 mm,.slice d1 d2 d3] 25))):=Lib.hid ((Upto.refl [] w).alloc _)
 have HWD:=Lib.hid (fun u=>word_calls 0 (by omega) u)
 go_enter Tryz.func111,Tryz.ntmps111
 go_wp2_with fail
 refine (HWD.out _).mono ?_
 rintro e w2 ⟨rfl,hu2⟩
 have HU2:=Lib.hid (HU.out.trans_ext hu2)
 clear hu2
 go_wp2_with fail
 go_ret
 exact⟨rfl,HU2.out⟩
theorem ratom_false (so nn mm:Int) (b1:Option Addr) (b2 b3:Nat) (d1:Option Addr) (d2 d3:Nat) (w:World):Calls Tryz.prog 111 #[.agg #[.int .i64 1,.slice b1 b2 b3,.int .i64 so,.int .i64 nn,.int .i64 mm,.slice d1 d2 d3]] w fun e w'=>e=.returned (.string ⟨([102,97,108,115,101]:List UInt8).toArray⟩)∧Upto [] w w':=by
 have HU:Hid (Upto [] w (w.alloc (.cells #[.int .i64 1,.slice b1 b2 b3,.int .i64 so,.int .i64 nn,.int .i64 mm,.slice d1 d2 d3] 25))):=Lib.hid ((Upto.refl [] w).alloc _)
 have HWD:=Lib.hid (fun u=>word_calls 1 (by omega) u)
 go_enter Tryz.func111,Tryz.ntmps111
 go_wp2_with fail
 refine (HWD.out _).mono ?_
 rintro e w2 ⟨rfl,hu2⟩
 have HU2:=Lib.hid (HU.out.trans_ext hu2)
 clear hu2
 go_wp2_with fail
 go_ret
 exact⟨rfl,HU2.out⟩
theorem ratom_one (so nn mm:Int) (g o b2 b3:Nat) (d1:Option Addr) (d2 d3:Nat) (x:List UInt8) (hlx:x.length≤1000000000) (w:World) (c1:w.cell? ⟨g,o,none⟩=some (.string ⟨x.toArray⟩)) (hb2:1≤b2):Calls Tryz.prog 111 #[.agg #[.int .i64 9,.slice (some ⟨g,o,none⟩) b2 b3,.int .i64 so,.int .i64 nn,.int .i64 mm,.slice d1 d2 d3]] w fun e w'=>e=.returned (.string ⟨([111,110,101,32]++x).toArray⟩)∧Upto [] w w':=by
 have hb2I:(0:Int)<b2:=by omega
 have s0:(ByteArray.mk x.toArray).size=x.length:=rfl
 have sm0:4+x.length≤9223372036854775807:=by omega
 have hu1:Upto [] w (w.alloc (.cells #[.int .i64 9,.slice (some ⟨g,o,none⟩) b2 b3,.int .i64 so,.int .i64 nn,.int .i64 mm,.slice d1 d2 d3] 25)):=(Upto.refl [] w).alloc _
 have HU:=Lib.hid hu1
 replace c1:=kAw hu1 c1
 have hb:=kAq w (.cells #[.int .i64 9,.slice (some ⟨g,o,none⟩) b2 b3,.int .i64 so,.int .i64 nn,.int .i64 mm,.slice d1 d2 d3] 25)
 obtain⟨y0,y1,y2,y3,y4,y5⟩:=kAx hb
 clear hu1 hb hb2 hlx
 go_enter Tryz.func111,Tryz.ntmps111
 go_wp2_with fail
 go_ret
 exact⟨congrArg (fun z=>Ending.returned (.string z)) (show ByteArray.mk [111,110,101,32].toArray++ByteArray.mk x.toArray=⟨([111,110,101,32]++x).toArray⟩ by simp only [ByteArray.mk_append_mk]),HU.out⟩
theorem ratom_is (so mm:Int) (q:Nat) (hq:q≤64) (g o b2 b3:Nat) (d1:Option Addr) (d2 d3:Nat) (x:List UInt8) (hlx:x.length≤1000000000) (w:World) (c1:w.cell? ⟨g,o,none⟩=some (.string ⟨x.toArray⟩)) (hb2:1≤b2):Calls Tryz.prog 111 #[.agg #[.int .i64 7,.slice (some ⟨g,o,none⟩) b2 b3,.int .i64 so,.int .i64 (q:Int),.int .i64 mm,.slice d1 d2 d3]] w fun e w'=>e=.returned (.string ⟨(x++[32,105,115,32]++digF 3 q).toArray⟩)∧Upto [] w w':=by
 have hb2I:(0:Int)<b2:=by omega
 have HD:=Lib.hid (fun u=>rdigits_calls q hq u)
 have hdl:=dig_len q (by omega)
 have hu1:Upto [] w (w.alloc (.cells #[.int .i64 7,.slice (some ⟨g,o,none⟩) b2 b3,.int .i64 so,.int .i64 (q:Int),.int .i64 mm,.slice d1 d2 d3] 25)):=(Upto.refl [] w).alloc _
 have HU:=Lib.hid hu1
 replace c1:=kAw hu1 c1
 have hb:=kAq w (.cells #[.int .i64 7,.slice (some ⟨g,o,none⟩) b2 b3,.int .i64 so,.int .i64 (q:Int),.int .i64 mm,.slice d1 d2 d3] 25)
 obtain⟨y0,y1,y2,y3,y4,y5⟩:=kAx hb
 have e0:=fun u:Ext (w.alloc (.cells #[.int .i64 7,.slice (some ⟨g,o,none⟩) b2 b3,.int .i64 so,.int .i64 (q:Int),.int .i64 mm,.slice d1 d2 d3] 25))=>u.cell y0
 have e1:=fun u:Ext (w.alloc (.cells #[.int .i64 7,.slice (some ⟨g,o,none⟩) b2 b3,.int .i64 so,.int .i64 (q:Int),.int .i64 mm,.slice d1 d2 d3] 25))=>u.cell y1
 have e3:=fun u:Ext (w.alloc (.cells #[.int .i64 7,.slice (some ⟨g,o,none⟩) b2 b3,.int .i64 so,.int .i64 (q:Int),.int .i64 mm,.slice d1 d2 d3] 25))=>u.cell y3
 have e4:=fun u:Ext (w.alloc (.cells #[.int .i64 7,.slice (some ⟨g,o,none⟩) b2 b3,.int .i64 so,.int .i64 (q:Int),.int .i64 mm,.slice d1 d2 d3] 25))=>u.cell y4
 have ex:=fun u:Ext (w.alloc (.cells #[.int .i64 7,.slice (some ⟨g,o,none⟩) b2 b3,.int .i64 so,.int .i64 (q:Int),.int .i64 mm,.slice d1 d2 d3] 25))=>u.cell c1
 generalize digF 3 q=D at *
 have s0:(ByteArray.mk x.toArray).size=x.length:=rfl
 have sm0:x.length+4≤9223372036854775807:=by omega
 have sm1:x.length+4+D.length≤9223372036854775807:=by omega
 clear hu1 hb hb2 hq hlx hdl
 go_enter Tryz.func111,Tryz.ntmps111
 go_wp2_with fail
 clear y0 y1 y2 y3 y4 y5 c1
 refine kFx [7] [] [0,1,2,3,4,5,6,7,8,9] (by kernel_rfl) (by kernel_rfl) ?_
 iterate 7 (refine kCq rfl rfl rfl rfl rfl ?_;intro K' hK';go_big_quiet_op;go_big_quiet_on)
 refine kMw rfl rfl rfl rfl (fun w=>by go_simp) (fun w' hu hd=>HD.out w') ?_
 simp only [Act.put,List.setIfInBounds_toArray,List.set_cons_zero,List.set_cons_succ]
 iterate 2 (refine kCq rfl rfl rfl rfl rfl ?_;intro K' hK';go_big_quiet_op;go_big_quiet_on)
 intro w9 hg
 have HW9:=Lib.hid (HU.out.trans_ext hg.up)
 clear hg e0 e1 e3 e4 ex
 go_wp2_with fail
 go_ret
 exact⟨congrArg (fun z=>Ending.returned (.string z)) (show ByteArray.mk x.toArray++ByteArray.mk [32,105,115,32].toArray++ByteArray.mk D.toArray=⟨(x++[32,105,115,32]++D).toArray⟩ by simp only [ByteArray.mk_append_mk]),HW9.out⟩
theorem ratom_size (so:Int) (q m:Nat) (hq:q≤64) (hm:m≤64) (g o b2 b3:Nat) (d1:Option Addr) (d2 d3:Nat) (x:List UInt8) (hlx:x.length≤1000000000) (w:World) (c1:w.cell? ⟨g,o,none⟩=some (.string ⟨x.toArray⟩)) (hb2:1≤b2):Calls Tryz.prog 111 #[.agg #[.int .i64 8,.slice (some ⟨g,o,none⟩) b2 b3,.int .i64 so,.int .i64 (q:Int),.int .i64 (m:Int),.slice d1 d2 d3]] w fun e w'=>e=.returned (.string ⟨([115,105,122,101,32]++x++[32,109,111,100,32]++digF 3 m++[32,105,115,32]++digF 3 q).toArray⟩)∧Upto [] w w':=by
 have hb2I:(0:Int)<b2:=by omega
 have HD:=Lib.hid (fun u=>rdigits_calls q hq u)
 have HE:=Lib.hid (fun u=>rdigits_calls m hm u)
 have hdl:=dig_len q (by omega)
 have hel:=dig_len m (by omega)
 have hu1:Upto [] w (w.alloc (.cells #[.int .i64 8,.slice (some ⟨g,o,none⟩) b2 b3,.int .i64 so,.int .i64 (q:Int),.int .i64 (m:Int),.slice d1 d2 d3] 25)):=(Upto.refl [] w).alloc _
 have HU:=Lib.hid hu1
 replace c1:=kAw hu1 c1
 have hb:=kAq w (.cells #[.int .i64 8,.slice (some ⟨g,o,none⟩) b2 b3,.int .i64 so,.int .i64 (q:Int),.int .i64 (m:Int),.slice d1 d2 d3] 25)
 obtain⟨y0,y1,y2,y3,y4,y5⟩:=kAx hb
 have e0:=fun u:Ext (w.alloc (.cells #[.int .i64 8,.slice (some ⟨g,o,none⟩) b2 b3,.int .i64 so,.int .i64 (q:Int),.int .i64 (m:Int),.slice d1 d2 d3] 25))=>u.cell y0
 have e1:=fun u:Ext (w.alloc (.cells #[.int .i64 8,.slice (some ⟨g,o,none⟩) b2 b3,.int .i64 so,.int .i64 (q:Int),.int .i64 (m:Int),.slice d1 d2 d3] 25))=>u.cell y1
 have e3:=fun u:Ext (w.alloc (.cells #[.int .i64 8,.slice (some ⟨g,o,none⟩) b2 b3,.int .i64 so,.int .i64 (q:Int),.int .i64 (m:Int),.slice d1 d2 d3] 25))=>u.cell y3
 have e4:=fun u:Ext (w.alloc (.cells #[.int .i64 8,.slice (some ⟨g,o,none⟩) b2 b3,.int .i64 so,.int .i64 (q:Int),.int .i64 (m:Int),.slice d1 d2 d3] 25))=>u.cell y4
 have ex:=fun u:Ext (w.alloc (.cells #[.int .i64 8,.slice (some ⟨g,o,none⟩) b2 b3,.int .i64 so,.int .i64 (q:Int),.int .i64 (m:Int),.slice d1 d2 d3] 25))=>u.cell c1
 generalize digF 3 q=D at *
 generalize digF 3 m=E at *
 have s0:(ByteArray.mk x.toArray).size=x.length:=rfl
 have sm0:5+x.length≤9223372036854775807:=by omega
 have sm1:5+x.length+5≤9223372036854775807:=by omega
 have sm2:5+x.length+5+E.length≤9223372036854775807:=by omega
 have sm3:5+x.length+5+E.length+4≤9223372036854775807:=by omega
 have sm4:5+x.length+5+E.length+4+D.length≤9223372036854775807:=by omega
 clear hu1 hb hb2 hq hm hlx hdl hel
 go_enter Tryz.func111,Tryz.ntmps111
 go_wp2_with fail
 clear y0 y1 y2 y3 y4 y5 c1
 refine kFx [8,13] [] [0,1,2,3,4,5,6,7,8,9,10,11,12,13,14,15] (by kernel_rfl) (by kernel_rfl) ?_
 iterate 8 (refine kCq rfl rfl rfl rfl rfl ?_;intro K' hK';go_big_quiet_op;go_big_quiet_on)
 refine kMw rfl rfl rfl rfl (fun w=>by go_simp) (fun w' hu hd=>HE.out w') ?_
 simp only [Act.put,List.setIfInBounds_toArray,List.set_cons_zero,List.set_cons_succ]
 iterate 4 (refine kCq rfl rfl rfl rfl rfl ?_;intro K' hK';go_big_quiet_op;go_big_quiet_on)
 refine kMw rfl rfl rfl rfl (fun w=>by go_simp) (fun w' hu hd=>HD.out w') ?_
 simp only [Act.put,List.setIfInBounds_toArray,List.set_cons_zero,List.set_cons_succ]
 iterate 2 (refine kCq rfl rfl rfl rfl rfl ?_;intro K' hK';go_big_quiet_op;go_big_quiet_on)
 intro w9 hg
 have HW9:=Lib.hid (HU.out.trans_ext hg.up)
 clear hg e0 e1 e3 e4 ex
 go_wp2_with fail
 go_ret
 exact⟨congrArg (fun z=>Ending.returned (.string z)) (show ByteArray.mk [115,105,122,101,32].toArray++ByteArray.mk x.toArray++ByteArray.mk [32,109,111,100,32].toArray++ByteArray.mk E.toArray++ByteArray.mk [32,105,115,32].toArray++ByteArray.mk D.toArray=⟨([115,105,122,101,32]++x++[32,109,111,100,32]++E++[32,105,115,32]++D).toArray⟩ by simp only [ByteArray.mk_append_mk]),HW9.out⟩
theorem ratom_two (so nn mm:Int) (k:Nat) (h2:2≤k) (h7:k<7) (g o b2 b3:Nat) (d1:Option Addr) (d2 d3:Nat) (x y:List UInt8) (hlx:x.length≤1000000000) (hly:y.length≤1000000000) (w:World) (c1:w.cell? ⟨g,o,none⟩=some (.string ⟨x.toArray⟩)) (c2:w.cell? ⟨g,o+1,none⟩=some (.string ⟨y.toArray⟩)) (hb2:2≤b2):Calls Tryz.prog 111 #[.agg #[.int .i64 (k:Int),.slice (some ⟨g,o,none⟩) b2 b3,.int .i64 so,.int .i64 nn,.int .i64 mm,.slice d1 d2 d3]] w fun e w'=>e=.returned (.string ⟨(x++[32]++wordsF.getD k []++[32]++y).toArray⟩)∧Upto [] w w':=by
 have hb2I:(0:Int)<b2:=by omega
 have hb2J:(1:Int)<b2:=by omega
 have hwl:=wordsF_len k
 have HWD:=Lib.hid (fun u=>word_calls k (by omega) u)
 rw [refW_word (by omega) (by omega)] at HWD
 obtain⟨W,hW⟩:∃W,W=wordsF.getD k []:=⟨_,rfl⟩
 rw [←hW] at hwl HWD ⊢
 clear hW
 have hu1:Upto [] w (w.alloc (.cells #[.int .i64 (k:Int),.slice (some ⟨g,o,none⟩) b2 b3,.int .i64 so,.int .i64 nn,.int .i64 mm,.slice d1 d2 d3] 25)):=(Upto.refl [] w).alloc _
 have HU:=Lib.hid hu1
 replace c1:=kAw hu1 c1
 have hb:=kAq w (.cells #[.int .i64 (k:Int),.slice (some ⟨g,o,none⟩) b2 b3,.int .i64 so,.int .i64 nn,.int .i64 mm,.slice d1 d2 d3] 25)
 obtain⟨y0,y1,y2,y3,y4,y5⟩:=kAx hb
 have e0:=fun u:Ext (w.alloc (.cells #[.int .i64 (k:Int),.slice (some ⟨g,o,none⟩) b2 b3,.int .i64 so,.int .i64 nn,.int .i64 mm,.slice d1 d2 d3] 25))=>u.cell y0
 have e1:=fun u:Ext (w.alloc (.cells #[.int .i64 (k:Int),.slice (some ⟨g,o,none⟩) b2 b3,.int .i64 so,.int .i64 nn,.int .i64 mm,.slice d1 d2 d3] 25))=>u.cell y1
 have e3:=fun u:Ext (w.alloc (.cells #[.int .i64 (k:Int),.slice (some ⟨g,o,none⟩) b2 b3,.int .i64 so,.int .i64 nn,.int .i64 mm,.slice d1 d2 d3] 25))=>u.cell y3
 have e4:=fun u:Ext (w.alloc (.cells #[.int .i64 (k:Int),.slice (some ⟨g,o,none⟩) b2 b3,.int .i64 so,.int .i64 nn,.int .i64 mm,.slice d1 d2 d3] 25))=>u.cell y4
 have ex:=fun u:Ext (w.alloc (.cells #[.int .i64 (k:Int),.slice (some ⟨g,o,none⟩) b2 b3,.int .i64 so,.int .i64 nn,.int .i64 mm,.slice d1 d2 d3] 25))=>u.cell c1
 replace c2:=kAw hu1 c2
 have ez:=fun u:Ext (w.alloc (.cells #[.int .i64 (k:Int),.slice (some ⟨g,o,none⟩) b2 b3,.int .i64 so,.int .i64 nn,.int .i64 mm,.slice d1 d2 d3] 25))=>u.cell c2
 have s0:(ByteArray.mk x.toArray).size=x.length:=rfl
 have s1:(ByteArray.mk y.toArray).size=y.length:=rfl
 have sm0:x.length+1≤9223372036854775807:=by omega
 have sm1:x.length+1+W.length≤9223372036854775807:=by omega
 have sm2:x.length+1+W.length+1≤9223372036854775807:=by omega
 have sm3:x.length+1+W.length+1+y.length≤9223372036854775807:=by omega
 have k0:((k:Int)==0)=false:=by rw [beq_eq_false_iff_ne];omega
 have k1:((k:Int)==1)=false:=by rw [beq_eq_false_iff_ne];omega
 have k7:((k:Int)==7)=false:=by rw [beq_eq_false_iff_ne];omega
 have k8:((k:Int)==8)=false:=by rw [beq_eq_false_iff_ne];omega
 have k9:((k:Int)==9)=false:=by rw [beq_eq_false_iff_ne];omega
 have k10:((k:Int)==10)=false:=by rw [beq_eq_false_iff_ne];omega
 clear hu1 hb hb2 h2 h7 hlx hly hwl
 go_enter Tryz.func111,Tryz.ntmps111
 go_wp2_with fail
 clear y0 y1 y2 y3 y4 y5 c1 c2 k0 k1 k7 k8 k9 k10
 refine kFx [7] [] [0,1,2,3,4,5,6,7,8,9,10,11,12,13,14,15] (by kernel_rfl) (by kernel_rfl) ?_
 iterate 7 (refine kCq rfl rfl rfl rfl rfl ?_;intro K' hK';go_big_quiet_op;go_big_quiet_on)
 refine kMw rfl rfl rfl rfl (fun w=>by go_simp) (fun w' hu hd=>HWD.out w') ?_
 simp only [Act.put,List.setIfInBounds_toArray,List.set_cons_zero,List.set_cons_succ]
 iterate 8 (refine kCq rfl rfl rfl rfl rfl ?_;intro K' hK';go_big_quiet_op;go_big_quiet_on)
 intro w9 hg
 have HW9:=Lib.hid (HU.out.trans_ext hg.up)
 clear hg e0 e1 e3 e4 ex ez
 go_wp2_with fail
 go_ret
 exact⟨congrArg (fun z=>Ending.returned (.string z)) (show ByteArray.mk x.toArray++ByteArray.mk [32].toArray++ByteArray.mk W.toArray++ByteArray.mk [32].toArray++ByteArray.mk y.toArray=⟨(x++[32]++W++[32]++y).toArray⟩ by simp only [ByteArray.mk_append_mk]),HW9.out⟩
theorem ratom_call (so nn mm:Int) (g o b3:Nat) (d1:Option Addr) (d2 d3:Nat) (f:List UInt8) (ys xs:List (List UInt8)) (hxs:xs=f::ys) (hxl:xs.length≤100) (hlx:∀x∈xs,x.length≤16) (w:World) (hx:∀i x,xs[i]?=some x→w.cell? ⟨g,o+i,none⟩=some (.string ⟨x.toArray⟩)):Calls Tryz.prog 111 #[.agg #[.int .i64 10,.slice (some ⟨g,o,none⟩) xs.length b3,.int .i64 so,.int .i64 nn,.int .i64 mm,.slice d1 d2 d3]] w fun e w'=>e=.returned (.string ⟨(f++[32,40]++argS ys++[32,41]).toArray⟩)∧Upto [] w w':=by
 have hu1:Upto [] w (w.alloc (.cells #[.int .i64 10,.slice (some ⟨g,o,none⟩) xs.length b3,.int .i64 so,.int .i64 nn,.int .i64 mm,.slice d1 d2 d3] 25)):=(Upto.refl [] w).alloc _
 have HU1:=Lib.hid hu1
 have hb:=kAq w (.cells #[.int .i64 10,.slice (some ⟨g,o,none⟩) xs.length b3,.int .i64 so,.int .i64 nn,.int .i64 mm,.slice d1 d2 d3] 25)
 have HB:=Lib.hid hb
 obtain⟨y0,y1⟩:=kKx hb
 have HX:=Lib.hid hx
 have HLX:=Lib.hid hlx
 have HXS:=Lib.hid hxs
 have hf:xs[0]?=some f:=by rw [hxs];rfl
 have c0:=hx 0 f hf
 rw [Nat.add_zero] at c0
 replace c0:=kAw hu1 c0
 have hfl:=hlx f (by rw [hxs];simp)
 have hn1:(1:Int)≤xs.length:=by rw [hxs];simp;omega
 have hn2:(xs.length:Int)≤100:=by omega
 have q0:(0:Int)<xs.length:=by omega
 have s0:(ByteArray.mk f.toArray).size=f.length:=rfl
 have sm0:f.length+2≤9223372036854775807:=by omega
 have HYL:Hid (∀j,(argS (ys.take j)).length≤2000):=Lib.hid (fun j=>by
  have h1:=argS_len (ys.take j) (fun x hx'=>hlx x (by rw [hxs];simp [List.mem_of_mem_take hx']))
  have h2:(ys.take j).length≤100:=by
   rw [List.length_take]
   have:ys.length+1=xs.length:=by rw [hxs];simp
   omega
  omega)
 clear hu1 hb hx hlx hxs hf
 go_enter Tryz.func111,Tryz.ntmps111
 go_wp2_with fail
 generalize hW:(w.alloc (.cells #[.int .i64 10,.slice (some ⟨g,o,none⟩) xs.length b3,.int .i64 so,.int .i64 nn,.int .i64 mm,.slice d1 d2 d3] 25))=W at *
 clear hW y0 y1
 go_loopw [3,4] (fun s i wr=>∃k:Nat,1≤k∧k≤xs.length∧s=.string ⟨(f++[32,40]++argS (ys.take (k-1))).toArray⟩∧i=.int .i64 k∧Hid (Upto [] W wr)) (fun _ i _=>xs.length-(intOf i).toNat)
 case atStart=>exact⟨1,by omega,by omega,by simp only [Nat.sub_self,List.take_zero,argS_nil,List.append_nil];exact congrArg Value.string (by rw [show ByteArray.mk #[32,40]=ByteArray.mk [32,40].toArray from rfl,ByteArray.mk_append_mk]),rfl,Lib.hid (Upto.refl _ _)⟩
 case round =>
  clear c0
  obtain⟨k,hk1,hk2,rfl,rfl,HU⟩:=hrel
  have hk0:(0:Int)≤k:=by omega
  have hb:=HU.out.at HB.out (by simp)
  have y1:=kAz hb 1
  simp only [List.getElem?_toArray,List.getElem?_cons_zero,List.getElem?_cons_succ] at y1
  have HW:=Lib.hid (HU1.out.trans_ext HU.out)
  have hcl:=HYL.out (k-1)
  rcases Nat.lt_or_ge k xs.length with hlt | hge
  ·have hltI:(k:Int)<xs.length:=by omega
   obtain⟨y,hy⟩:∃y,xs[k]?=some y:=⟨_,List.getElem?_eq_getElem hlt⟩
   have c1:=HX.out k y hy
   replace c1:=kAw HW.out c1
   have hyl:=HLX.out y (List.mem_of_getElem? hy)
   have HY:Hid (ys[k-1]?=some y):=Lib.hid (by
    rw [HXS.out] at hy
    obtain⟨q,rfl⟩:∃q,k=q+1:=⟨k-1,by omega⟩
    simpa using hy)
   have HTK:Hid (ys.take k=ys.take (k-1)++[y]):=Lib.hid (by
    obtain⟨q,rfl⟩:∃q,k=q+1:=⟨k-1,by omega⟩
    obtain⟨hi,h2⟩:=List.getElem?_eq_some_iff.1 HY.out
    simp only [Nat.add_sub_cancel] at hi h2 ⊢
    rw [List.take_succ_eq_append_getElem hi,h2])
   have s1:(ByteArray.mk y.toArray).size=y.length:=rfl
   by_cases hz:k=1
   ·subst hz
    have HCF:Hid (argS (ys.take 1)=[32]++y):=Lib.hid (by
     rw [HTK.out,argS_snoc]
     simp [argS,argT])
    have hE:f++[32,40]++argS (ys.take (1-1))=f++[32,40]:=by simp [argS,argT]
    rw [hE]
    clear hE
    have s2:(ByteArray.mk (f++[32,40]).toArray).size=f.length+2:=by show (f++[32,40]).toArray.size=_;simp
    have sm1:f.length+2+1≤9223372036854775807:=by omega
    have sm2:f.length+2+1+y.length≤9223372036854775807:=by omega
    have hc1:ByteArray.mk (f++[32,40]).toArray++ByteArray.mk #[32]=⟨(f++[32,40]++[32]).toArray⟩:=by
     show _++ByteArray.mk [32].toArray=_
     rw [ByteArray.mk_append_mk]
    have s3:(ByteArray.mk (f++[32,40]++[32]).toArray).size=f.length+2+1:=by show (f++[32,40]++[32]).toArray.size=_;simp
    clear hb hy
    go_wp2_with fail
    go_roundw
    case rel =>
     refine⟨2,by omega,by omega,?_,by go_num,HU⟩
     rw [show 2-1=1 from rfl,HCF.out]
     exact congrArg Value.string (by first | (rw [ByteArray.mk_append_mk];simp;done) | (rw [show ByteArray.mk #[32]=ByteArray.mk [32].toArray from rfl,ByteArray.mk_append_mk,ByteArray.mk_append_mk];simp))
    case measure=>simp [intOf];omega
   ·have hzJ:(1:Int)<(k:Int):=by omega
    have HCF:Hid (argS (ys.take k)=argS (ys.take (k-1))++[32,44]++[32]++y):=Lib.hid (by
     rw [HTK.out,argS_snoc,if_neg]
     ·simp
     intro h
     have hi:=(List.getElem?_eq_some_iff.1 HY.out).1
     have:=congrArg List.length h
     simp only [List.length_take,List.length_nil] at this
     omega)
    generalize argS (ys.take (k-1))=T at *
    have s2:(ByteArray.mk (f++[32,40]++T).toArray).size=f.length+2+T.length:=by show (f++[32,40]++T).toArray.size=_;simp;omega
    have hc1:ByteArray.mk (f++[32,40]++T).toArray++ByteArray.mk #[32,44]=⟨(f++[32,40]++T++[32,44]).toArray⟩:=by
     show _++ByteArray.mk [32,44].toArray=_
     rw [ByteArray.mk_append_mk]
    have s3:(ByteArray.mk (f++[32,40]++T++[32,44]).toArray).size=f.length+2+T.length+2:=by show (f++[32,40]++T++[32,44]).toArray.size=_;simp;omega
    have hc2:ByteArray.mk (f++[32,40]++T++[32,44]).toArray++ByteArray.mk #[32]=⟨(f++[32,40]++T++[32,44]++[32]).toArray⟩:=by
     show _++ByteArray.mk [32].toArray=_
     rw [ByteArray.mk_append_mk]
    have s4:(ByteArray.mk (f++[32,40]++T++[32,44]++[32]).toArray).size=f.length+2+T.length+2+1:=by show (f++[32,40]++T++[32,44]++[32]).toArray.size=_;simp;omega
    have sm1:f.length+2+T.length+2≤9223372036854775807:=by omega
    have sm2:f.length+2+T.length+2+1≤9223372036854775807:=by omega
    have sm3:f.length+2+T.length+2+1+y.length≤9223372036854775807:=by omega
    clear hb hy hz
    go_wp2_with fail
    go_roundw
    case rel =>
     refine⟨k+1,by omega,by omega,?_,by go_num,HU⟩
     rw [Nat.add_sub_cancel,HCF.out]
     exact congrArg Value.string (by first | (rw [ByteArray.mk_append_mk];simp;done) | (rw [show ByteArray.mk #[32,44]=ByteArray.mk [32,44].toArray from rfl,show ByteArray.mk #[32]=ByteArray.mk [32].toArray from rfl,ByteArray.mk_append_mk,ByteArray.mk_append_mk,ByteArray.mk_append_mk];simp))
    case measure=>simp [intOf];omega
  ·have hgeI:¬(k:Int)<xs.length:=by omega
   have HTA:Hid (ys.take (k-1)=ys):=Lib.hid (List.take_of_length_le (by
    have:ys.length+1=xs.length:=by rw [HXS.out];simp
    omega))
   rw [HTA.out] at hcl ⊢
   have s2:(ByteArray.mk (f++[32,40]++argS ys).toArray).size=f.length+2+(argS ys).length:=by show (f++[32,40]++argS ys).toArray.size=_;simp;omega
   have sm1:f.length+2+(argS ys).length+2≤9223372036854775807:=by omega
   clear hb
   go_wp2_with fail
   go_ret
   exact⟨congrArg (fun z=>Ending.returned (.string z)) (by rw [show ByteArray.mk #[32,41]=ByteArray.mk [32,41].toArray from rfl,ByteArray.mk_append_mk];simp),HW.out⟩
end Go.Proofs.YtkhbpebpljdifaaGreatDoor
