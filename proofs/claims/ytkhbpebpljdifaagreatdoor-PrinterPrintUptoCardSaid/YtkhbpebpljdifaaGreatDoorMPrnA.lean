/- Merged texts. -/
import Derived.Test.YtkhbpebpljdifaaGreatDoorMPri
set_option maxRecDepth 100000
set_option maxHeartbeats 25600000
namespace Go.Proofs.YtkhbpebpljdifaaGreatDoor
open Go.PL
theorem jn_one (t:PL.Tok):jn [t]=t.text:=by simp [jn_cons]
theorem jn_cons2 (t:PL.Tok) {r:List PL.Tok} (hr:r≠[]):jn (t::r)=t.text++32::jn r:=by
 have:=jn_app (a:=[t]) (by simp) hr
 rwa [jn_one] at this
theorem jn_par (b:Bool) {t:List PL.Tok} (u:List PL.Tok) (ht:t≠[]):jn (parT b t u)=if b then [40,32]++jn t++[32,41] else jn u:=by
 unfold parT
 cases b with
 | false=>rfl
 | true =>
  simp only [if_true]
  rw [jn_cons2 _ (by simp),jn_app ht (by simp),jn_one]
  simp [puT]
end Go.Proofs.YtkhbpebpljdifaaGreatDoor
namespace Go.PL
open Go.RowKit Go.MapKept
open Go.Maps (Keyed)
section
variable {P:Program} {k:TypeId} {w w':World} {b:Nat} {L:List (Value×Value)}
end
section
variable {P:Program} (w:World) {ops:Array Oper} {rest:List Oper} {o:Oper} {a:Act} {Q:Exit→Act→World→Prop}
end
section
variable {P:Program} (w:World)
end
section
variable {P:Program} (w:World)
end
def bv (b:UInt8):Value:=.int .u8 b.toNat
theorem conv_str {P:Program} {w:World} {src e dst:TypeId} (hs:P.underlying src=some (.slice e)) (he:P.underlying e=some (.int .u8)) (hd:P.underlying dst=some .string) {v:Value} {bs:List UInt8}
  (h:SlC w v (bs.map bv)):(convert src dst v).run P w=.ok (.string ⟨bs.toArray⟩) w:=by
 rcases h with⟨h0,a,c,rfl⟩ | ⟨g,o,c,rfl,hc⟩
 ·have hb:bs=[]:=by simpa using h0
  subst hb
  cases a with
  | none=>exact run_convert_bytes_nil w src e hs he 0 c dst hd
  | some a =>
   have hl:(loadCells a 0).run P w=.ok #[] w:=by simp [loadCells,loadCellsFrom]
   rw [run_convert_bytes_string w src dst e _ 0 c hs he hd,run_bytesToString w a 0 c [] (by simpa using hl)]
   rfl
 ·have:=run_convert_bytes_arg (P:=P) w src e hs he g o (bs.map bv).length c (bs.map fun b=>(b.toNat:Int)) (by simp) (fun i hi=>by
   simp at hi
   have:=hc i (bv bs[i]) (by simp [hi])
   rw [this]
   simp [bv,hi]) dst hd
  rw [this]
  congr 2
  simp only [strOfNums,List.map_map,Function.comp_def,Int.toNat_natCast,UInt8.ofNat_toNat,List.map_id']
section
variable {P:Program} (w:World) {o:Oper} {ac:Act} {Q:Exit→Act→World→Prop}
end
end Go.PL
namespace Go.Proofs.YtkhbpebpljdifaaGreatDoor
open Go.RowKit Go.PL Go.Maps
theorem cells3 {w:World} {p:Nat} {a b c:Value} {r:List Value} {t:TypeId} {z:Nat×Nat} (h:w.heap[p]?=some (.cells (a::b::c::r).toArray t z)):w.cell? ⟨p,0,none⟩=some a∧w.cell? ⟨p,1,none⟩=some b∧w.cell? ⟨p,2,none⟩=some c :=
 ⟨by simpa using kAz h 0,by simpa using kAz h 1,by simpa using kAz h 2⟩
theorem sorted_calls (s:Int) (w:World):Calls Tryz.prog 20 #[.int .i64 s] w fun e w'=>e=.returned (.string ⟨(kOj s).toArray⟩)∧Upto [] w w':=by
 have HU:=Lib.hid (Upto.refl [] w)
 by_cases h0:s=0
 ·subst h0
  go_enter Tryz.func20,Tryz.ntmps20
  go_wp2_with fail
  go_ret
  exact⟨rfl,HU.out⟩
 by_cases h1:s=1
 ·subst h1
  go_enter Tryz.func20,Tryz.ntmps20
  go_wp2_with fail
  go_ret
  exact⟨rfl,HU.out⟩
 by_cases h2:s=2
 ·subst h2
  go_enter Tryz.func20,Tryz.ntmps20
  go_wp2_with fail
  go_ret
  exact⟨rfl,HU.out⟩
 by_cases h3:s=3
 ·subst h3
  go_enter Tryz.func20,Tryz.ntmps20
  go_wp2_with fail
  go_ret
  exact⟨rfl,HU.out⟩
 have e:kOj s=[]:=by unfold kOj;rw [if_neg h0,if_neg h1,if_neg h2,if_neg h3]
 rw [e]
 have b0:(s==0)=false:=by simpa using h0
 have b1:(s==1)=false:=by simpa using h1
 have b2:(s==2)=false:=by simpa using h2
 have b3:(s==3)=false:=by simpa using h3
 go_enter Tryz.func20,Tryz.ntmps20
 go_wp2_with fail
 go_ret
 exact⟨rfl,HU.out⟩
theorem conv_digit (wr:World) (m:Nat):(convert 115 9 (.slice (some ⟨wr.heap.size,0,none⟩) 1 1)).run Tryz.prog (wr.alloc (.cells #[.int .u8 (48+(m:Int) % 10)] 5))=.ok (.string ⟨[UInt8.ofNat (48+m % 10)].toArray⟩) (wr.alloc (.cells #[.int .u8 (48+(m:Int) % 10)] 5)):=by
 refine conv_str Tryz.underlying115 Tryz.underlying5 Tryz.underlying9 (Or.inr ⟨wr.heap.size,0,1,rfl,fun j u hj=>?_⟩)
 match j,hj with
 | 0,hj =>
  simp only [List.map_cons,List.getElem?_cons_zero,Option.some.injEq] at hj
  rw [←hj,kAz (kAq _ _)]
  simp only [bv,digit_nat]
  rfl
 | j+1,hj=>simp at hj
theorem conv_dig (wr:World) (k:Nat) (hk:k<10):(convert 115 9 (.slice (some ⟨wr.heap.size,0,none⟩) 1 1)).run Tryz.prog (wr.alloc (.cells #[.int .u8 (48+(k:Int))] 5))=.ok (.string ⟨#[UInt8.ofNat (48+k)]⟩) (wr.alloc (.cells #[.int .u8 (48+(k:Int))] 5)):=by
 have h:=conv_digit wr k
 rw [Nat.mod_eq_of_lt hk,show (k:Int) % 10=k by omega] at h
 exact h
theorem conv_byte (W:World) (B b:Nat) (hb:b<10) (h:W.cell? ⟨B,0,none⟩=some (.int .u8 (48+(b:Int)))):(convert 115 9 (.slice (some ⟨B,0,none⟩) 1 1)).run Tryz.prog W=.ok (.string ⟨#[UInt8.ofNat (48+b)]⟩) W:=by
 refine conv_str Tryz.underlying115 Tryz.underlying5 Tryz.underlying9 (Or.inr ⟨B,0,1,rfl,fun j u hj=>?_⟩)
 match j,hj with
 | 0,hj =>
  simp only [List.map_cons,List.getElem?_cons_zero,Option.some.injEq] at hj
  rw [←hj,h]
  have:=digit_nat b
  rw [Nat.mod_eq_of_lt hb] at this
  simp only [bv,this]
  rfl
 | j+1,hj=>simp at hj
theorem conW_word {k:Nat} (h:12≤k∧k<16):conW (k:Int)=wordsF.getD k []:=by
 have:k=12∨k=13∨k=14∨k=15:=by omega
 rcases this with rfl | rfl | rfl | rfl<;>rfl
theorem quW_word {k:Nat} (h:16≤k∧k<18):quW (k:Int)=wordsF.getD k []:=by
 have:k=16∨k=17:=by omega
 rcases this with rfl | rfl<;>rfl
theorem wordsF_len:∀k:Nat,(wordsF.getD k []).length≤10:=by
 intro k
 by_cases h:k<18
 ·have key:∀m:_root_.Fin 18,(wordsF.getD m.val []).length≤10:=by decide
  exact key ⟨k,h⟩
 ·rw [List.getD_eq_getElem?_getD,List.getElem?_eq_none (by show wordsF.length≤k;simp [wordsF];omega)]
  simp
end Go.Proofs.YtkhbpebpljdifaaGreatDoor
namespace Go.Proofs.YtkhbpebpljdifaaGreatDoor
open Go.PL
theorem check_ok {nm:List UInt8→Bool} (hnm:∀x,nm x=true→Real 1 x 0) {n:Nd} (h:kSq nm n=0):okF n∧kIz n=0:=by
 unfold kSq at h
 by_cases h3:kKk nm n≠0
 ·rw [if_pos h3] at h;exact absurd h h3
 rw [if_neg h3] at h
 exact⟨form_ok hnm _ _ (Nat.le_refl _) (Decidable.not_not.1 h3),h⟩
end Go.Proofs.YtkhbpebpljdifaaGreatDoor
namespace Go.Proofs.YtkhbpebpljdifaaGreatDoor
open Go.RowKit Go.PL Go.Maps
def argS (ys:List (List UInt8)):List UInt8:=(argT ys).flatMap (fun u=>32::u.text)
theorem argS_nil:argS []=[]:=rfl
theorem argS_snoc:∀(xs:List (List UInt8)) (y:List UInt8),argS (xs++[y])=argS xs++(if xs=[] then [] else [32,44])++32::y
 | [],y=>by simp [argS,argT,idT]
 | [x],y=>by simp [argS,argT,idT,puT]
 | x::z::r,y=>by
  have h:=argS_snoc (z::r) y
  rw [if_neg (by simp)] at h ⊢
  simp only [argS,List.cons_append,argT,List.flatMap_cons] at h ⊢
  rw [h]
  simp
theorem argS_len (ys:List (List UInt8)) (h:∀x∈ys,x.length≤16):(argS ys).length≤19*ys.length:=by
 have h1:=arg_wts ys h
 have:∀L:List PL.Tok,(L.flatMap fun u=>32::u.text).length=wts L:=by
  intro L
  induction L with
  | nil=>rfl
  | cons t r ih=>simp only [List.flatMap_cons,List.length_append,ih,kDw,List.length_cons,wt]
 unfold argS
 rw [this]
 exact h1
theorem atom_true {names:List (List UInt8)} {n m:Int}:jn (kIk 0 names n m)=[116,114,117,101]:=rfl
theorem atom_false {names:List (List UInt8)} {n m:Int}:jn (kIk 1 names n m)=[102,97,108,115,101]:=rfl
theorem atom_two {k:Nat} (h2:2≤k) (h7:k<7) {x y:List UInt8} {n m:Int}:jn (kIk k [x,y] n m)=x++[32]++wordsF.getD k []++[32]++y:=by
 unfold kIk
 rw [if_neg (by omega),if_neg (by omega),if_pos (by omega),←rel_word ⟨h2,h7⟩,jn_cons]
 simp [idT]
theorem atom_is {x:List UInt8} {q:Nat} {m:Int}:jn (kIk 7 [x] q m)=x++[32,105,115,32]++digF 3 q:=by
 unfold kIk
 rw [if_neg (by omega),if_neg (by omega),if_neg (by omega),if_pos rfl,jn_cons]
 simp [idT,kyT,nmT]
theorem atom_size {x:List UInt8} {q p:Nat}:jn (kIk 8 [x] q p)=[115,105,122,101,32]++x++[32,109,111,100,32]++digF 3 p++[32,105,115,32]++digF 3 q:=by
 unfold kIk
 rw [if_neg (by omega),if_neg (by omega),if_neg (by omega),if_neg (by omega),if_pos rfl,jn_cons]
 simp [idT,kyT,nmT]
theorem atom_one {x:List UInt8} {n m:Int}:jn (kIk 9 [x] n m)=[111,110,101,32]++x:=by
 unfold kIk
 rw [if_neg (by omega),if_neg (by omega),if_neg (by omega),if_neg (by omega),if_neg (by omega),if_pos rfl,jn_cons]
 simp [idT,kyT]
theorem atom_call {f:List UInt8} {ys:List (List UInt8)} {n m:Int}:jn (kIk 10 (f::ys) n m)=f++[32,40]++argS ys++[32,41]:=by
 unfold kIk
 rw [if_neg (by omega),if_neg (by omega),if_neg (by omega),if_neg (by omega),if_neg (by omega),if_neg (by omega),jn_cons]
 simp [idT,puT,argS]
def opJ (op:Int) (place:Nat) (x:Nd) (last:Bool):List UInt8:=jn (parT (parB op place (opF x) last) (prT true x) (prT last x))
theorem opJ_eq (op:Int) (place:Nat) (x:Nd) (last:Bool):opJ op place x last=if parB op place (opF x) last then [40,32]++jn (prT true x)++[32,41] else jn (prT last x):=jn_par _ _ (prT_ne true x)
theorem par_ne (b:Bool) (x:Nd) (last:Bool):parT b (prT true x) (prT last x)≠[]:=by
 cases b
 ·exact prT_ne last x
 ·simp [parT]
theorem jn_not {names:List (List UInt8)} {so n m:Int} {a:Nd} {last:Bool}:jn (prT last (.mk 11 names so n m [a]))=[110,111,116,32]++opJ 11 0 a last:=by
 unfold prT
 rw [if_neg (by decide),if_pos rfl]
 simp only [prsT,List.getD_cons_zero]
 rw [jn_cons2 _ (par_ne _ _ _)]
 simp [kyT,opJ,opNd]
theorem jn_bin {op:Int} (h1:12≤op) (h2:op<16) {names:List (List UInt8)} {so n m:Int} {a b:Nd} {last:Bool}:jn (prT last (.mk op names so n m [a,b]))=opJ op 0 a false++[32]++conW op++[32]++opJ op 1 b last:=by
 unfold prT
 rw [if_neg (by omega),if_neg (by omega),if_pos h2]
 simp only [prsT,List.getD_cons_zero,List.getD_cons_succ]
 rw [jn_app (par_ne _ _ _) (by simp),jn_cons2 _ (par_ne _ _ _)]
 simp [kyT,opJ,opNd]
theorem jn_qu {op:Int} (h1:16≤op) {x:List UInt8} {so n m:Int} {a:Nd} {last:Bool}:jn (prT last (.mk op [x] so n m [a]))=quW op++[32]++kDj.getD so.toNat []++[32]++x++[32,58]++[32]++jn (prT true a):=by
 rw [prT,if_neg (by omega),if_neg (by omega),if_neg (by omega)]
 simp only [prsT,List.getD_cons_zero]
 rw [jn_cons2 _ (by simp),jn_cons2 _ (by simp),jn_cons2 _ (by simp),jn_cons2 _ (prT_ne true a)]
 simp [kyT,idT,puT]
theorem frS_nil:frS []=[]:=rfl
theorem frS_snoc:∀(f:List (List UInt8×Int)) (v:List UInt8×Int),frS (f++[v])=frS f++(if f=[] then [] else [32,44])++[32]++kDj.getD v.2.toNat []++[32]++v.1
 | [],v=>by simp [frS,varB,idT,kyT]
 | [x],v=>by simp [frS,varB,idT,kyT,puT]
 | x::z::r,v=>by
  have h:=frS_snoc (z::r) v
  rw [if_neg (by simp)] at h ⊢
  simp only [frS,List.cons_append,varB,List.flatMap_cons] at h ⊢
  rw [h]
  simp
def refW:List (List UInt8):=[[116,114,117,101],[102,97,108,115,101],[61],[105,110],[115,117,98],[97,100,106],[111,110],[105,115],[115,105,122,101],[111,110,101],[],[110,111,116],[97,110,100],[111,114],[105,109,112,108,105,101,115],[105,102,102],[115,111,109,101],[101,118,101,114,121]]
theorem refW_at:∀k:_root_.Fin 18,(7≤k.val∧k.val<11)∨refW.getD k.val []=wordsF.getD k.val []:=by decide +kernel
theorem refW_word {k:Nat} (h:k<18) (h7:k<7∨11≤k):refW.getD k []=wordsF.getD k []:=by
 rcases refW_at ⟨k,h⟩ with h1 | h1
 ·simp only at h1;omega
 ·exact h1
theorem word_calls (k:Nat) (hk:k<18) (w:World):Calls Tryz.prog 114 #[.int .i64 (k:Int)] w fun e w'=>e=.returned (.string ⟨(refW.getD k []).toArray⟩)∧Upto [] w w':=by
 have HU:Hid (Upto [] w (w.alloc (.cells #[.string ⟨#[116,114,117,101]⟩,.string ⟨#[102,97,108,115,101]⟩,.string ⟨#[61]⟩,.string ⟨#[105,110]⟩,.string ⟨#[115,117,98]⟩,.string ⟨#[97,100,106]⟩,.string ⟨#[111,110]⟩,.string ⟨#[105,115]⟩,.string ⟨#[115,105,122,101]⟩,.string ⟨#[111,110,101]⟩,.string ⟨#[]⟩,.string ⟨#[110,111,116]⟩,.string ⟨#[97,110,100]⟩,.string ⟨#[111,114]⟩,.string ⟨#[105,109,112,108,105,101,115]⟩,.string ⟨#[105,102,102]⟩,.string ⟨#[115,111,109,101]⟩,.string ⟨#[101,118,101,114,121]⟩] 9))):=Lib.hid ((Upto.refl [] w).alloc _)
 obtain⟨W,hW⟩:∃W,refW.getD k []=W:=⟨_,rfl⟩
 have hc:(w.alloc (.cells #[.string ⟨#[116,114,117,101]⟩,.string ⟨#[102,97,108,115,101]⟩,.string ⟨#[61]⟩,.string ⟨#[105,110]⟩,.string ⟨#[115,117,98]⟩,.string ⟨#[97,100,106]⟩,.string ⟨#[111,110]⟩,.string ⟨#[105,115]⟩,.string ⟨#[115,105,122,101]⟩,.string ⟨#[111,110,101]⟩,.string ⟨#[]⟩,.string ⟨#[110,111,116]⟩,.string ⟨#[97,110,100]⟩,.string ⟨#[111,114]⟩,.string ⟨#[105,109,112,108,105,101,115]⟩,.string ⟨#[105,102,102]⟩,.string ⟨#[115,111,109,101]⟩,.string ⟨#[101,118,101,114,121]⟩] 9)).cell? ⟨w.heap.size,k,none⟩=some (.string ⟨W.toArray⟩):=by
  rw [kAz (kAq w _),←hW]
  show (refW.map sV).toArray[k]?=_
  rw [List.getElem?_toArray,List.getElem?_map,List.getD_eq_getElem?_getD]
  obtain⟨z,hz⟩:∃z,refW[k]?=some z:=⟨_,List.getElem?_eq_getElem (by simpa [refW] using hk)⟩
  rw [hz]
  rfl
 rw [hW]
 have q0:(0:Int)≤k:=by omega
 have q1:(k:Int)<18:=by omega
 clear hW hk
 go_enter Tryz.func114,Tryz.ntmps114
 go_wp2_with fail
 go_ret
 exact⟨rfl,HU.out⟩
theorem rdig1_calls (k:Nat) (hk:k<10) (w:World):Calls Tryz.prog 136 #[.int .i64 k] w fun e w'=>e=.returned (.string ⟨#[UInt8.ofNat (48+k)]⟩)∧Upto [] w w':=by
 have hcv:=conv_dig w k hk
 have q0:(k:Int)<10:=by omega
 have q1:(0:Int)≤k:=by omega
 have HU:=Lib.hid ((Upto.refl [] w).alloc (.cells #[.int .u8 (48+(k:Int))] 5))
 go_enter Tryz.func136,Tryz.ntmps136
 go_wp2_with fail
 go_ret
 exact⟨by rw [show UInt8.ofNat (48+k)=48+UInt8.ofNat k from by simp [UInt8.ofNat_add]];rfl,HU.out⟩
theorem rdig2_calls (a b:Nat) (ha:1≤a∧a<10) (hb:b<10) (n:Int) (hn:n=10*a+b) (w:World):Calls Tryz.prog 136 #[.int .i64 n] w fun e w'=>e=.returned (.string ⟨#[UInt8.ofNat (48+a),UInt8.ofNat (48+b)]⟩)∧Upto [] w w':=by
 have q0:¬n<10:=by omega
 have t0:n.tdiv 10=(a:Int):=by rw [Int.tdiv_eq_ediv_of_nonneg (by omega)];omega
 have t1:n.tmod 10=(b:Int):=by rw [Int.tmod_eq_emod_of_nonneg (by omega)];omega
 have t2:n / 10=(a:Int):=by omega
 have t3:n % 10=(b:Int):=by omega
 have hcv:∀wr:World,(convert 115 9 (.slice (some ⟨wr.heap.size,0,none⟩) 1 1)).run Tryz.prog (wr.alloc (.cells #[.int .u8 (48+(b:Int))] 5))=.ok (.string ⟨#[UInt8.ofNat (48+b)]⟩) (wr.alloc (.cells #[.int .u8 (48+(b:Int))] 5)):=fun wr=>conv_dig wr b hb
 have HD:=Lib.hid (fun u:World=>rdig1_calls a ha.2 u)
 have q1:(0:Int)≤a:=by omega
 have q2:(a:Int)≤9:=by omega
 have q3:(0:Int)≤b:=by omega
 have q4:(b:Int)≤9:=by omega
 have hwa:IntKind.i64.wrap (a:Int)=a:=(show ∀x:_root_.Fin 10,IntKind.i64.wrap (x.val:Int)=x.val by decide) ⟨a,ha.2⟩
 have hwb:IntKind.i64.wrap (48+(b:Int))=48+b:=(show ∀x:_root_.Fin 10,IntKind.i64.wrap (48+(x.val:Int))=48+x.val by decide) ⟨b,hb⟩
 have hwc:IntKind.u8.wrap (48+(b:Int))=48+b:=(show ∀x:_root_.Fin 10,IntKind.u8.wrap (48+(x.val:Int))=48+x.val by decide) ⟨b,hb⟩
 clear hn
 have HCV:=Lib.hid hcv
 clear hcv
 go_enter Tryz.func136,Tryz.ntmps136
 go_wp2_with fail
 have h0:=HCV.out w.drew
 have h1:=conv_byte (w.alloc (.cells #[.int .u8 (48+(b:Int))] 5)).drew w.heap.size b hb (kAz (kAq w (.cells #[.int .u8 (48+(b:Int))] 5)) 0)
 go_region_with (
   go_at_call 136
   refine (HD.out _).mono ?_
   rintro e w2 ⟨rfl,hu5⟩
   have hcv2:=HCV.out w2
   try have hcv3:=conv_byte w2 w.heap.size b hb ((hu5.cell (p:=⟨w.heap.size,0,none⟩) (by simp) (by simp)).trans (kAz (kAq w (.cells #[.int .u8 (48+(b:Int))] 5)) 0))
   try have hcv4:=HCV.out w2.drew)
 all_goals (
  have hup:Upto [] w w2:=by first | exact (Upto.refl [] w).drew.trans_ext hu5 | exact (((Upto.refl [] w).alloc _).drew).trans_ext hu5 | exact ((Upto.refl [] w).alloc _).trans_ext hu5
  have HUP:=Lib.hid (hup.alloc (.cells #[.int .u8 (48+(b:Int))] 5))
  have HUQ:=Lib.hid hup
  clear hu5 hup
  go_wp2
  go_ret
  exact⟨congrArg (fun z=>Ending.returned (.string z)) (by rw [show UInt8.ofNat (48+a)=48+UInt8.ofNat a from by simp [UInt8.ofNat_add],show UInt8.ofNat (48+b)=48+UInt8.ofNat b from by simp [UInt8.ofNat_add]];exact ByteArray.mk_append_mk [_] [_]),by first | exact HUQ.out | exact HUP.out | exact HUQ.out.drew | exact HUP.out.drew⟩)
theorem rdigits_calls (n:Nat) (h:n≤64) (w:World):Calls Tryz.prog 136 #[.int .i64 (n:Int)] w fun e w'=>e=.returned (.string ⟨(digF 3 n).toArray⟩)∧Upto [] w w':=by
 by_cases h1:n<10
 ·have e:digF 3 n=[UInt8.ofNat (48+n)]:=by simp [digF,h1]
  rw [e]
  exact rdig1_calls n h1 w
 ·have e:digF 3 n=[UInt8.ofNat (48+n / 10),UInt8.ofNat (48+n % 10)]:=by
   have h2:n / 10<10:=by omega
   simp [digF,h1,h2]
  rw [e]
  exact rdig2_calls (n / 10) (n % 10) (by omega) (by omega) n (by omega) w
theorem need_out (op place:Int) (c so nn mm:Int) (b1:Option Addr) (b2 b3:Nat) (d1:Option Addr) (d2 d3:Nat) (w:World) (h:c<11∨15<c):Calls Tryz.prog 137 #[.int .i64 op,.int .i64 place,.agg #[.int .i64 c,.slice b1 b2 b3,.int .i64 so,.int .i64 nn,.int .i64 mm,.slice d1 d2 d3]] w fun e w'=>e=.returned (.bool false)∧Upto [] w w':=by
 have HU:Hid (Upto [] w (w.alloc (.cells #[.int .i64 c,.slice b1 b2 b3,.int .i64 so,.int .i64 nn,.int .i64 mm,.slice d1 d2 d3] 25))):=Lib.hid ((Upto.refl [] w).alloc _)
 by_cases h1:c<11
 ·clear h
  go_enter Tryz.func137,Tryz.ntmps137
  go_wp2_with fail
  go_ret
  exact⟨rfl,HU.out⟩
 ·have h2:15<c:=by omega
  clear h
  go_enter Tryz.func137,Tryz.ntmps137
  go_wp2_with fail
  go_ret
  exact⟨rfl,HU.out⟩
theorem need_11 (place:Nat) (hp:place<2) (c so nn mm:Int) (b1:Option Addr) (b2 b3:Nat) (d1:Option Addr) (d2 d3:Nat) (w:World) (h1:11≤c) (h2:c≤15):Calls Tryz.prog 137 #[.int .i64 11,.int .i64 (place:Int),.agg #[.int .i64 c,.slice b1 b2 b3,.int .i64 so,.int .i64 nn,.int .i64 mm,.slice d1 d2 d3]] w fun e w'=>e=.returned (.bool (kMz 11 place c))∧Upto [] w w':=by
 have HU:Hid (Upto [] w (w.alloc (.cells #[.int .i64 c,.slice b1 b2 b3,.int .i64 so,.int .i64 nn,.int .i64 mm,.slice d1 d2 d3] 25))):=Lib.hid ((Upto.refl [] w).alloc _)
 have hp2:place=0∨place=1:=by omega
 have hc:c=11∨c=12∨c=13∨c=14∨c=15:=by omega
 clear hp h1 h2
 rcases hp2 with rfl | rfl<;>rcases hc with rfl | rfl | rfl | rfl | rfl
 all_goals
  go_enter Tryz.func137,Tryz.ntmps137
  go_wp2_with fail
  go_ret
  exact⟨rfl,HU.out⟩
theorem need_12 (place:Nat) (hp:place<2) (c so nn mm:Int) (b1:Option Addr) (b2 b3:Nat) (d1:Option Addr) (d2 d3:Nat) (w:World) (h1:11≤c) (h2:c≤15):Calls Tryz.prog 137 #[.int .i64 12,.int .i64 (place:Int),.agg #[.int .i64 c,.slice b1 b2 b3,.int .i64 so,.int .i64 nn,.int .i64 mm,.slice d1 d2 d3]] w fun e w'=>e=.returned (.bool (kMz 12 place c))∧Upto [] w w':=by
 have HU:Hid (Upto [] w (w.alloc (.cells #[.int .i64 c,.slice b1 b2 b3,.int .i64 so,.int .i64 nn,.int .i64 mm,.slice d1 d2 d3] 25))):=Lib.hid ((Upto.refl [] w).alloc _)
 have hp2:place=0∨place=1:=by omega
 have hc:c=11∨c=12∨c=13∨c=14∨c=15:=by omega
 clear hp h1 h2
 rcases hp2 with rfl | rfl<;>rcases hc with rfl | rfl | rfl | rfl | rfl
 all_goals
  go_enter Tryz.func137,Tryz.ntmps137
  go_wp2_with fail
  go_ret
  exact⟨rfl,HU.out⟩
theorem need_13 (place:Nat) (hp:place<2) (c so nn mm:Int) (b1:Option Addr) (b2 b3:Nat) (d1:Option Addr) (d2 d3:Nat) (w:World) (h1:11≤c) (h2:c≤15):Calls Tryz.prog 137 #[.int .i64 13,.int .i64 (place:Int),.agg #[.int .i64 c,.slice b1 b2 b3,.int .i64 so,.int .i64 nn,.int .i64 mm,.slice d1 d2 d3]] w fun e w'=>e=.returned (.bool (kMz 13 place c))∧Upto [] w w':=by
 have HU:Hid (Upto [] w (w.alloc (.cells #[.int .i64 c,.slice b1 b2 b3,.int .i64 so,.int .i64 nn,.int .i64 mm,.slice d1 d2 d3] 25))):=Lib.hid ((Upto.refl [] w).alloc _)
 have hp2:place=0∨place=1:=by omega
 have hc:c=11∨c=12∨c=13∨c=14∨c=15:=by omega
 clear hp h1 h2
 rcases hp2 with rfl | rfl<;>rcases hc with rfl | rfl | rfl | rfl | rfl
 all_goals
  go_enter Tryz.func137,Tryz.ntmps137
  go_wp2_with fail
  go_ret
  exact⟨rfl,HU.out⟩
theorem need_14 (place:Nat) (hp:place<2) (c so nn mm:Int) (b1:Option Addr) (b2 b3:Nat) (d1:Option Addr) (d2 d3:Nat) (w:World) (h1:11≤c) (h2:c≤15):Calls Tryz.prog 137 #[.int .i64 14,.int .i64 (place:Int),.agg #[.int .i64 c,.slice b1 b2 b3,.int .i64 so,.int .i64 nn,.int .i64 mm,.slice d1 d2 d3]] w fun e w'=>e=.returned (.bool (kMz 14 place c))∧Upto [] w w':=by
 have HU:Hid (Upto [] w (w.alloc (.cells #[.int .i64 c,.slice b1 b2 b3,.int .i64 so,.int .i64 nn,.int .i64 mm,.slice d1 d2 d3] 25))):=Lib.hid ((Upto.refl [] w).alloc _)
 have hp2:place=0∨place=1:=by omega
 have hc:c=11∨c=12∨c=13∨c=14∨c=15:=by omega
 clear hp h1 h2
 rcases hp2 with rfl | rfl<;>rcases hc with rfl | rfl | rfl | rfl | rfl
 all_goals
  go_enter Tryz.func137,Tryz.ntmps137
  go_wp2_with fail
  go_ret
  exact⟨rfl,HU.out⟩
theorem need_15 (place:Nat) (hp:place<2) (c so nn mm:Int) (b1:Option Addr) (b2 b3:Nat) (d1:Option Addr) (d2 d3:Nat) (w:World) (h1:11≤c) (h2:c≤15):Calls Tryz.prog 137 #[.int .i64 15,.int .i64 (place:Int),.agg #[.int .i64 c,.slice b1 b2 b3,.int .i64 so,.int .i64 nn,.int .i64 mm,.slice d1 d2 d3]] w fun e w'=>e=.returned (.bool (kMz 15 place c))∧Upto [] w w':=by
 have HU:Hid (Upto [] w (w.alloc (.cells #[.int .i64 c,.slice b1 b2 b3,.int .i64 so,.int .i64 nn,.int .i64 mm,.slice d1 d2 d3] 25))):=Lib.hid ((Upto.refl [] w).alloc _)
 have hp2:place=0∨place=1:=by omega
 have hc:c=11∨c=12∨c=13∨c=14∨c=15:=by omega
 clear hp h1 h2
 rcases hp2 with rfl | rfl<;>rcases hc with rfl | rfl | rfl | rfl | rfl
 all_goals
  go_enter Tryz.func137,Tryz.ntmps137
  go_wp2_with fail
  go_ret
  exact⟨rfl,HU.out⟩
theorem needed_calls (op:Int) (h1:11≤op) (h2:op≤15) (place:Nat) (hp:place<2) (c so nn mm:Int) (b1:Option Addr) (b2 b3:Nat) (d1:Option Addr) (d2 d3:Nat) (w:World):Calls Tryz.prog 137 #[.int .i64 op,.int .i64 (place:Int),.agg #[.int .i64 c,.slice b1 b2 b3,.int .i64 so,.int .i64 nn,.int .i64 mm,.slice d1 d2 d3]] w fun e w'=>e=.returned (.bool (kMz op place c))∧Upto [] w w':=by
 by_cases h:c<11∨15<c
 ·have:kMz op place c=false:=by unfold kMz;rw [if_pos h]
  rw [this]
  exact need_out op place c so nn mm b1 b2 b3 d1 d2 d3 w h
 ·have ho:op=11∨op=12∨op=13∨op=14∨op=15:=by omega
  rcases ho with rfl | rfl | rfl | rfl | rfl
  ·exact need_11 place hp c so nn mm b1 b2 b3 d1 d2 d3 w (by omega) (by omega)
  ·exact need_12 place hp c so nn mm b1 b2 b3 d1 d2 d3 w (by omega) (by omega)
  ·exact need_13 place hp c so nn mm b1 b2 b3 d1 d2 d3 w (by omega) (by omega)
  ·exact need_14 place hp c so nn mm b1 b2 b3 d1 d2 d3 w (by omega) (by omega)
  ·exact need_15 place hp c so nn mm b1 b2 b3 d1 d2 d3 w (by omega) (by omega)
theorem ratom_true (so nn mm:Int) (b1:Option Addr) (b2 b3:Nat) (d1:Option Addr) (d2 d3:Nat) (w:World):Calls Tryz.prog 111 #[.agg #[.int .i64 0,.slice b1 b2 b3,.int .i64 so,.int .i64 nn,.int .i64 mm,.slice d1 d2 d3]] w fun e w'=>e=.returned (.string ⟨([116,114,117,101]:List UInt8).toArray⟩)∧Upto [] w w':=by
 have HU:Hid (Upto [] w (w.alloc (.cells #[.int .i64 0,.slice b1 b2 b3,.int .i64 so,.int .i64 nn,.int .i64 mm,.slice d1 d2 d3] 25))):=Lib.hid ((Upto.refl [] w).alloc _)
 have HWD:=Lib.hid (fun u=>word_calls 0 (by omega) u)
 go_enter Tryz.func111,Tryz.ntmps111
 go_wp2_with fail
 refine (HWD.out _).mono ?_
 rintro e w2 ⟨rfl,hu2⟩
 have HU2:=Lib.hid (HU.out.trans_ext hu2)
 clear hu2
 go_wp2_with fail
 go_ret
 exact⟨rfl,HU2.out⟩
theorem ratom_false (so nn mm:Int) (b1:Option Addr) (b2 b3:Nat) (d1:Option Addr) (d2 d3:Nat) (w:World):Calls Tryz.prog 111 #[.agg #[.int .i64 1,.slice b1 b2 b3,.int .i64 so,.int .i64 nn,.int .i64 mm,.slice d1 d2 d3]] w fun e w'=>e=.returned (.string ⟨([102,97,108,115,101]:List UInt8).toArray⟩)∧Upto [] w w':=by
 have HU:Hid (Upto [] w (w.alloc (.cells #[.int .i64 1,.slice b1 b2 b3,.int .i64 so,.int .i64 nn,.int .i64 mm,.slice d1 d2 d3] 25))):=Lib.hid ((Upto.refl [] w).alloc _)
 have HWD:=Lib.hid (fun u=>word_calls 1 (by omega) u)
 go_enter Tryz.func111,Tryz.ntmps111
 go_wp2_with fail
 refine (HWD.out _).mono ?_
 rintro e w2 ⟨rfl,hu2⟩
 have HU2:=Lib.hid (HU.out.trans_ext hu2)
 clear hu2
 go_wp2_with fail
 go_ret
 exact⟨rfl,HU2.out⟩
theorem ratom_one (so nn mm:Int) (g o b2 b3:Nat) (d1:Option Addr) (d2 d3:Nat) (x:List UInt8) (hlx:x.length≤1000000000) (w:World) (c1:w.cell? ⟨g,o,none⟩=some (.string ⟨x.toArray⟩)) (hb2:1≤b2):Calls Tryz.prog 111 #[.agg #[.int .i64 9,.slice (some ⟨g,o,none⟩) b2 b3,.int .i64 so,.int .i64 nn,.int .i64 mm,.slice d1 d2 d3]] w fun e w'=>e=.returned (.string ⟨([111,110,101,32]++x).toArray⟩)∧Upto [] w w':=by
 have hb2I:(0:Int)<b2:=by omega
 have s0:(ByteArray.mk x.toArray).size=x.length:=rfl
 have sm0:4+x.length≤9223372036854775807:=by omega
 have hu1:Upto [] w (w.alloc (.cells #[.int .i64 9,.slice (some ⟨g,o,none⟩) b2 b3,.int .i64 so,.int .i64 nn,.int .i64 mm,.slice d1 d2 d3] 25)):=(Upto.refl [] w).alloc _
 have HU:=Lib.hid hu1
 replace c1:=kAw hu1 c1
 have hb:=kAq w (.cells #[.int .i64 9,.slice (some ⟨g,o,none⟩) b2 b3,.int .i64 so,.int .i64 nn,.int .i64 mm,.slice d1 d2 d3] 25)
 obtain⟨y0,y1,y2,y3,y4,y5⟩:=kAx hb
 clear hu1 hb hb2 hlx
 go_enter Tryz.func111,Tryz.ntmps111
 go_wp2_with fail
 go_ret
 exact⟨congrArg (fun z=>Ending.returned (.string z)) (show ByteArray.mk [111,110,101,32].toArray++ByteArray.mk x.toArray=⟨([111,110,101,32]++x).toArray⟩ by simp only [ByteArray.mk_append_mk]),HU.out⟩
theorem ratom_is (so mm:Int) (q:Nat) (hq:q≤64) (g o b2 b3:Nat) (d1:Option Addr) (d2 d3:Nat) (x:List UInt8) (hlx:x.length≤1000000000) (w:World) (c1:w.cell? ⟨g,o,none⟩=some (.string ⟨x.toArray⟩)) (hb2:1≤b2):Calls Tryz.prog 111 #[.agg #[.int .i64 7,.slice (some ⟨g,o,none⟩) b2 b3,.int .i64 so,.int .i64 (q:Int),.int .i64 mm,.slice d1 d2 d3]] w fun e w'=>e=.returned (.string ⟨(x++[32,105,115,32]++digF 3 q).toArray⟩)∧Upto [] w w':=by
 have hb2I:(0:Int)<b2:=by omega
 have HD:=Lib.hid (fun u=>rdigits_calls q hq u)
 have hdl:=dig_len q (by omega)
 have hu1:Upto [] w (w.alloc (.cells #[.int .i64 7,.slice (some ⟨g,o,none⟩) b2 b3,.int .i64 so,.int .i64 (q:Int),.int .i64 mm,.slice d1 d2 d3] 25)):=(Upto.refl [] w).alloc _
 have HU:=Lib.hid hu1
 replace c1:=kAw hu1 c1
 have hb:=kAq w (.cells #[.int .i64 7,.slice (some ⟨g,o,none⟩) b2 b3,.int .i64 so,.int .i64 (q:Int),.int .i64 mm,.slice d1 d2 d3] 25)
 obtain⟨y0,y1,y2,y3,y4,y5⟩:=kAx hb
 have e0:=fun u:Ext (w.alloc (.cells #[.int .i64 7,.slice (some ⟨g,o,none⟩) b2 b3,.int .i64 so,.int .i64 (q:Int),.int .i64 mm,.slice d1 d2 d3] 25))=>u.cell y0
 have e1:=fun u:Ext (w.alloc (.cells #[.int .i64 7,.slice (some ⟨g,o,none⟩) b2 b3,.int .i64 so,.int .i64 (q:Int),.int .i64 mm,.slice d1 d2 d3] 25))=>u.cell y1
 have e3:=fun u:Ext (w.alloc (.cells #[.int .i64 7,.slice (some ⟨g,o,none⟩) b2 b3,.int .i64 so,.int .i64 (q:Int),.int .i64 mm,.slice d1 d2 d3] 25))=>u.cell y3
 have e4:=fun u:Ext (w.alloc (.cells #[.int .i64 7,.slice (some ⟨g,o,none⟩) b2 b3,.int .i64 so,.int .i64 (q:Int),.int .i64 mm,.slice d1 d2 d3] 25))=>u.cell y4
 have ex:=fun u:Ext (w.alloc (.cells #[.int .i64 7,.slice (some ⟨g,o,none⟩) b2 b3,.int .i64 so,.int .i64 (q:Int),.int .i64 mm,.slice d1 d2 d3] 25))=>u.cell c1
 generalize digF 3 q=D at *
 have s0:(ByteArray.mk x.toArray).size=x.length:=rfl
 have sm0:x.length+4≤9223372036854775807:=by omega
 have sm1:x.length+4+D.length≤9223372036854775807:=by omega
 clear hu1 hb hb2 hq hlx hdl
 go_enter Tryz.func111,Tryz.ntmps111
 go_wp2_with fail
 clear y0 y1 y2 y3 y4 y5 c1
 refine kFx [7] [] [0,1,2,3,4,5,6,7,8,9] (by kernel_rfl) (by kernel_rfl) ?_
 iterate 7 (refine kCq rfl rfl rfl rfl rfl ?_;intro K' hK';go_big_quiet_op;go_big_quiet_on)
 refine kMw rfl rfl rfl rfl (fun w=>by go_simp) (fun w' hu hd=>HD.out w') ?_
 simp only [Act.put,List.setIfInBounds_toArray,List.set_cons_zero,List.set_cons_succ]
 iterate 2 (refine kCq rfl rfl rfl rfl rfl ?_;intro K' hK';go_big_quiet_op;go_big_quiet_on)
 intro w9 hg
 have HW9:=Lib.hid (HU.out.trans_ext hg.up)
 clear hg e0 e1 e3 e4 ex
 go_wp2_with fail
 go_ret
 exact⟨congrArg (fun z=>Ending.returned (.string z)) (show ByteArray.mk x.toArray++ByteArray.mk [32,105,115,32].toArray++ByteArray.mk D.toArray=⟨(x++[32,105,115,32]++D).toArray⟩ by simp only [ByteArray.mk_append_mk]),HW9.out⟩
theorem ratom_size (so:Int) (q m:Nat) (hq:q≤64) (hm:m≤64) (g o b2 b3:Nat) (d1:Option Addr) (d2 d3:Nat) (x:List UInt8) (hlx:x.length≤1000000000) (w:World) (c1:w.cell? ⟨g,o,none⟩=some (.string ⟨x.toArray⟩)) (hb2:1≤b2):Calls Tryz.prog 111 #[.agg #[.int .i64 8,.slice (some ⟨g,o,none⟩) b2 b3,.int .i64 so,.int .i64 (q:Int),.int .i64 (m:Int),.slice d1 d2 d3]] w fun e w'=>e=.returned (.string ⟨([115,105,122,101,32]++x++[32,109,111,100,32]++digF 3 m++[32,105,115,32]++digF 3 q).toArray⟩)∧Upto [] w w':=by
 have hb2I:(0:Int)<b2:=by omega
 have HD:=Lib.hid (fun u=>rdigits_calls q hq u)
 have HE:=Lib.hid (fun u=>rdigits_calls m hm u)
 have hdl:=dig_len q (by omega)
 have hel:=dig_len m (by omega)
 have hu1:Upto [] w (w.alloc (.cells #[.int .i64 8,.slice (some ⟨g,o,none⟩) b2 b3,.int .i64 so,.int .i64 (q:Int),.int .i64 (m:Int),.slice d1 d2 d3] 25)):=(Upto.refl [] w).alloc _
 have HU:=Lib.hid hu1
 replace c1:=kAw hu1 c1
 have hb:=kAq w (.cells #[.int .i64 8,.slice (some ⟨g,o,none⟩) b2 b3,.int .i64 so,.int .i64 (q:Int),.int .i64 (m:Int),.slice d1 d2 d3] 25)
 obtain⟨y0,y1,y2,y3,y4,y5⟩:=kAx hb
 have e0:=fun u:Ext (w.alloc (.cells #[.int .i64 8,.slice (some ⟨g,o,none⟩) b2 b3,.int .i64 so,.int .i64 (q:Int),.int .i64 (m:Int),.slice d1 d2 d3] 25))=>u.cell y0
 have e1:=fun u:Ext (w.alloc (.cells #[.int .i64 8,.slice (some ⟨g,o,none⟩) b2 b3,.int .i64 so,.int .i64 (q:Int),.int .i64 (m:Int),.slice d1 d2 d3] 25))=>u.cell y1
 have e3:=fun u:Ext (w.alloc (.cells #[.int .i64 8,.slice (some ⟨g,o,none⟩) b2 b3,.int .i64 so,.int .i64 (q:Int),.int .i64 (m:Int),.slice d1 d2 d3] 25))=>u.cell y3
 have e4:=fun u:Ext (w.alloc (.cells #[.int .i64 8,.slice (some ⟨g,o,none⟩) b2 b3,.int .i64 so,.int .i64 (q:Int),.int .i64 (m:Int),.slice d1 d2 d3] 25))=>u.cell y4
 have ex:=fun u:Ext (w.alloc (.cells #[.int .i64 8,.slice (some ⟨g,o,none⟩) b2 b3,.int .i64 so,.int .i64 (q:Int),.int .i64 (m:Int),.slice d1 d2 d3] 25))=>u.cell c1
 generalize digF 3 q=D at *
 generalize digF 3 m=E at *
 have s0:(ByteArray.mk x.toArray).size=x.length:=rfl
 have sm0:5+x.length≤9223372036854775807:=by omega
 have sm1:5+x.length+5≤9223372036854775807:=by omega
 have sm2:5+x.length+5+E.length≤9223372036854775807:=by omega
 have sm3:5+x.length+5+E.length+4≤9223372036854775807:=by omega
 have sm4:5+x.length+5+E.length+4+D.length≤9223372036854775807:=by omega
 clear hu1 hb hb2 hq hm hlx hdl hel
 go_enter Tryz.func111,Tryz.ntmps111
 go_wp2_with fail
 clear y0 y1 y2 y3 y4 y5 c1
 refine kFx [8,13] [] [0,1,2,3,4,5,6,7,8,9,10,11,12,13,14,15] (by kernel_rfl) (by kernel_rfl) ?_
 iterate 8 (refine kCq rfl rfl rfl rfl rfl ?_;intro K' hK';go_big_quiet_op;go_big_quiet_on)
 refine kMw rfl rfl rfl rfl (fun w=>by go_simp) (fun w' hu hd=>HE.out w') ?_
 simp only [Act.put,List.setIfInBounds_toArray,List.set_cons_zero,List.set_cons_succ]
 iterate 4 (refine kCq rfl rfl rfl rfl rfl ?_;intro K' hK';go_big_quiet_op;go_big_quiet_on)
 refine kMw rfl rfl rfl rfl (fun w=>by go_simp) (fun w' hu hd=>HD.out w') ?_
 simp only [Act.put,List.setIfInBounds_toArray,List.set_cons_zero,List.set_cons_succ]
 iterate 2 (refine kCq rfl rfl rfl rfl rfl ?_;intro K' hK';go_big_quiet_op;go_big_quiet_on)
 intro w9 hg
 have HW9:=Lib.hid (HU.out.trans_ext hg.up)
 clear hg e0 e1 e3 e4 ex
 go_wp2_with fail
 go_ret
 exact⟨congrArg (fun z=>Ending.returned (.string z)) (show ByteArray.mk [115,105,122,101,32].toArray++ByteArray.mk x.toArray++ByteArray.mk [32,109,111,100,32].toArray++ByteArray.mk E.toArray++ByteArray.mk [32,105,115,32].toArray++ByteArray.mk D.toArray=⟨([115,105,122,101,32]++x++[32,109,111,100,32]++E++[32,105,115,32]++D).toArray⟩ by simp only [ByteArray.mk_append_mk]),HW9.out⟩
theorem ratom_two (so nn mm:Int) (k:Nat) (h2:2≤k) (h7:k<7) (g o b2 b3:Nat) (d1:Option Addr) (d2 d3:Nat) (x y:List UInt8) (hlx:x.length≤1000000000) (hly:y.length≤1000000000) (w:World) (c1:w.cell? ⟨g,o,none⟩=some (.string ⟨x.toArray⟩)) (c2:w.cell? ⟨g,o+1,none⟩=some (.string ⟨y.toArray⟩)) (hb2:2≤b2):Calls Tryz.prog 111 #[.agg #[.int .i64 (k:Int),.slice (some ⟨g,o,none⟩) b2 b3,.int .i64 so,.int .i64 nn,.int .i64 mm,.slice d1 d2 d3]] w fun e w'=>e=.returned (.string ⟨(x++[32]++wordsF.getD k []++[32]++y).toArray⟩)∧Upto [] w w':=by
 have hb2I:(0:Int)<b2:=by omega
 have hb2J:(1:Int)<b2:=by omega
 have hwl:=wordsF_len k
 have HWD:=Lib.hid (fun u=>word_calls k (by omega) u)
 rw [refW_word (by omega) (by omega)] at HWD
 obtain⟨W,hW⟩:∃W,W=wordsF.getD k []:=⟨_,rfl⟩
 rw [←hW] at hwl HWD ⊢
 clear hW
 have hu1:Upto [] w (w.alloc (.cells #[.int .i64 (k:Int),.slice (some ⟨g,o,none⟩) b2 b3,.int .i64 so,.int .i64 nn,.int .i64 mm,.slice d1 d2 d3] 25)):=(Upto.refl [] w).alloc _
 have HU:=Lib.hid hu1
 replace c1:=kAw hu1 c1
 have hb:=kAq w (.cells #[.int .i64 (k:Int),.slice (some ⟨g,o,none⟩) b2 b3,.int .i64 so,.int .i64 nn,.int .i64 mm,.slice d1 d2 d3] 25)
 obtain⟨y0,y1,y2,y3,y4,y5⟩:=kAx hb
 have e0:=fun u:Ext (w.alloc (.cells #[.int .i64 (k:Int),.slice (some ⟨g,o,none⟩) b2 b3,.int .i64 so,.int .i64 nn,.int .i64 mm,.slice d1 d2 d3] 25))=>u.cell y0
 have e1:=fun u:Ext (w.alloc (.cells #[.int .i64 (k:Int),.slice (some ⟨g,o,none⟩) b2 b3,.int .i64 so,.int .i64 nn,.int .i64 mm,.slice d1 d2 d3] 25))=>u.cell y1
 have e3:=fun u:Ext (w.alloc (.cells #[.int .i64 (k:Int),.slice (some ⟨g,o,none⟩) b2 b3,.int .i64 so,.int .i64 nn,.int .i64 mm,.slice d1 d2 d3] 25))=>u.cell y3
 have e4:=fun u:Ext (w.alloc (.cells #[.int .i64 (k:Int),.slice (some ⟨g,o,none⟩) b2 b3,.int .i64 so,.int .i64 nn,.int .i64 mm,.slice d1 d2 d3] 25))=>u.cell y4
 have ex:=fun u:Ext (w.alloc (.cells #[.int .i64 (k:Int),.slice (some ⟨g,o,none⟩) b2 b3,.int .i64 so,.int .i64 nn,.int .i64 mm,.slice d1 d2 d3] 25))=>u.cell c1
 replace c2:=kAw hu1 c2
 have ez:=fun u:Ext (w.alloc (.cells #[.int .i64 (k:Int),.slice (some ⟨g,o,none⟩) b2 b3,.int .i64 so,.int .i64 nn,.int .i64 mm,.slice d1 d2 d3] 25))=>u.cell c2
 have s0:(ByteArray.mk x.toArray).size=x.length:=rfl
 have s1:(ByteArray.mk y.toArray).size=y.length:=rfl
 have sm0:x.length+1≤9223372036854775807:=by omega
 have sm1:x.length+1+W.length≤9223372036854775807:=by omega
 have sm2:x.length+1+W.length+1≤9223372036854775807:=by omega
 have sm3:x.length+1+W.length+1+y.length≤9223372036854775807:=by omega
 have k0:((k:Int)==0)=false:=by rw [beq_eq_false_iff_ne];omega
 have k1:((k:Int)==1)=false:=by rw [beq_eq_false_iff_ne];omega
 have k7:((k:Int)==7)=false:=by rw [beq_eq_false_iff_ne];omega
 have k8:((k:Int)==8)=false:=by rw [beq_eq_false_iff_ne];omega
 have k9:((k:Int)==9)=false:=by rw [beq_eq_false_iff_ne];omega
 have k10:((k:Int)==10)=false:=by rw [beq_eq_false_iff_ne];omega
 clear hu1 hb hb2 h2 h7 hlx hly hwl
 go_enter Tryz.func111,Tryz.ntmps111
 go_wp2_with fail
 clear y0 y1 y2 y3 y4 y5 c1 c2 k0 k1 k7 k8 k9 k10
 refine kFx [7] [] [0,1,2,3,4,5,6,7,8,9,10,11,12,13,14,15] (by kernel_rfl) (by kernel_rfl) ?_
 iterate 7 (refine kCq rfl rfl rfl rfl rfl ?_;intro K' hK';go_big_quiet_op;go_big_quiet_on)
 refine kMw rfl rfl rfl rfl (fun w=>by go_simp) (fun w' hu hd=>HWD.out w') ?_
 simp only [Act.put,List.setIfInBounds_toArray,List.set_cons_zero,List.set_cons_succ]
 iterate 8 (refine kCq rfl rfl rfl rfl rfl ?_;intro K' hK';go_big_quiet_op;go_big_quiet_on)
 intro w9 hg
 have HW9:=Lib.hid (HU.out.trans_ext hg.up)
 clear hg e0 e1 e3 e4 ex ez
 go_wp2_with fail
 go_ret
 exact⟨congrArg (fun z=>Ending.returned (.string z)) (show ByteArray.mk x.toArray++ByteArray.mk [32].toArray++ByteArray.mk W.toArray++ByteArray.mk [32].toArray++ByteArray.mk y.toArray=⟨(x++[32]++W++[32]++y).toArray⟩ by simp only [ByteArray.mk_append_mk]),HW9.out⟩
theorem ratom_call (so nn mm:Int) (g o b3:Nat) (d1:Option Addr) (d2 d3:Nat) (f:List UInt8) (ys xs:List (List UInt8)) (hxs:xs=f::ys) (hxl:xs.length≤100) (hlx:∀x∈xs,x.length≤16) (w:World) (hx:∀i x,xs[i]?=some x→w.cell? ⟨g,o+i,none⟩=some (.string ⟨x.toArray⟩)):Calls Tryz.prog 111 #[.agg #[.int .i64 10,.slice (some ⟨g,o,none⟩) xs.length b3,.int .i64 so,.int .i64 nn,.int .i64 mm,.slice d1 d2 d3]] w fun e w'=>e=.returned (.string ⟨(f++[32,40]++argS ys++[32,41]).toArray⟩)∧Upto [] w w':=by
 have hu1:Upto [] w (w.alloc (.cells #[.int .i64 10,.slice (some ⟨g,o,none⟩) xs.length b3,.int .i64 so,.int .i64 nn,.int .i64 mm,.slice d1 d2 d3] 25)):=(Upto.refl [] w).alloc _
 have HU1:=Lib.hid hu1
 have hb:=kAq w (.cells #[.int .i64 10,.slice (some ⟨g,o,none⟩) xs.length b3,.int .i64 so,.int .i64 nn,.int .i64 mm,.slice d1 d2 d3] 25)
 have HB:=Lib.hid hb
 obtain⟨y0,y1⟩:=kKx hb
 have HX:=Lib.hid hx
 have HLX:=Lib.hid hlx
 have HXS:=Lib.hid hxs
 have hf:xs[0]?=some f:=by rw [hxs];rfl
 have c0:=hx 0 f hf
 rw [Nat.add_zero] at c0
 replace c0:=kAw hu1 c0
 have hfl:=hlx f (by rw [hxs];simp)
 have hn1:(1:Int)≤xs.length:=by rw [hxs];simp;omega
 have hn2:(xs.length:Int)≤100:=by omega
 have q0:(0:Int)<xs.length:=by omega
 have s0:(ByteArray.mk f.toArray).size=f.length:=rfl
 have sm0:f.length+2≤9223372036854775807:=by omega
 have HYL:Hid (∀j,(argS (ys.take j)).length≤2000):=Lib.hid (fun j=>by
  have h1:=argS_len (ys.take j) (fun x hx'=>hlx x (by rw [hxs];simp [List.mem_of_mem_take hx']))
  have h2:(ys.take j).length≤100:=by
   rw [List.length_take]
   have:ys.length+1=xs.length:=by rw [hxs];simp
   omega
  omega)
 clear hu1 hb hx hlx hxs hf
 go_enter Tryz.func111,Tryz.ntmps111
 go_wp2_with fail
 generalize hW:(w.alloc (.cells #[.int .i64 10,.slice (some ⟨g,o,none⟩) xs.length b3,.int .i64 so,.int .i64 nn,.int .i64 mm,.slice d1 d2 d3] 25))=W at *
 clear hW y0 y1
 go_loopw [3,4] (fun s i wr=>∃k:Nat,1≤k∧k≤xs.length∧s=.string ⟨(f++[32,40]++argS (ys.take (k-1))).toArray⟩∧i=.int .i64 k∧Hid (Upto [] W wr)) (fun _ i _=>xs.length-(intOf i).toNat)
 case atStart=>exact⟨1,by omega,by omega,by simp only [Nat.sub_self,List.take_zero,argS_nil,List.append_nil];exact congrArg Value.string (by rw [show ByteArray.mk #[32,40]=ByteArray.mk [32,40].toArray from rfl,ByteArray.mk_append_mk]),rfl,Lib.hid (Upto.refl _ _)⟩
 case round =>
  clear c0
  obtain⟨k,hk1,hk2,rfl,rfl,HU⟩:=hrel
  have hk0:(0:Int)≤k:=by omega
  have hb:=HU.out.at HB.out (by simp)
  have y1:=kAz hb 1
  simp only [List.getElem?_toArray,List.getElem?_cons_zero,List.getElem?_cons_succ] at y1
  have HW:=Lib.hid (HU1.out.trans_ext HU.out)
  have hcl:=HYL.out (k-1)
  rcases Nat.lt_or_ge k xs.length with hlt | hge
  ·have hltI:(k:Int)<xs.length:=by omega
   obtain⟨y,hy⟩:∃y,xs[k]?=some y:=⟨_,List.getElem?_eq_getElem hlt⟩
   have c1:=HX.out k y hy
   replace c1:=kAw HW.out c1
   have hyl:=HLX.out y (List.mem_of_getElem? hy)
   have HY:Hid (ys[k-1]?=some y):=Lib.hid (by
    rw [HXS.out] at hy
    obtain⟨q,rfl⟩:∃q,k=q+1:=⟨k-1,by omega⟩
    simpa using hy)
   have HTK:Hid (ys.take k=ys.take (k-1)++[y]):=Lib.hid (by
    obtain⟨q,rfl⟩:∃q,k=q+1:=⟨k-1,by omega⟩
    obtain⟨hi,h2⟩:=List.getElem?_eq_some_iff.1 HY.out
    simp only [Nat.add_sub_cancel] at hi h2 ⊢
    rw [List.take_succ_eq_append_getElem hi,h2])
   have s1:(ByteArray.mk y.toArray).size=y.length:=rfl
   by_cases hz:k=1
   ·subst hz
    have HCF:Hid (argS (ys.take 1)=[32]++y):=Lib.hid (by
     rw [HTK.out,argS_snoc]
     simp [argS,argT])
    have hE:f++[32,40]++argS (ys.take (1-1))=f++[32,40]:=by simp [argS,argT]
    rw [hE]
    clear hE
    have s2:(ByteArray.mk (f++[32,40]).toArray).size=f.length+2:=by show (f++[32,40]).toArray.size=_;simp
    have sm1:f.length+2+1≤9223372036854775807:=by omega
    have sm2:f.length+2+1+y.length≤9223372036854775807:=by omega
    have hc1:ByteArray.mk (f++[32,40]).toArray++ByteArray.mk #[32]=⟨(f++[32,40]++[32]).toArray⟩:=by
     show _++ByteArray.mk [32].toArray=_
     rw [ByteArray.mk_append_mk]
    have s3:(ByteArray.mk (f++[32,40]++[32]).toArray).size=f.length+2+1:=by show (f++[32,40]++[32]).toArray.size=_;simp
    clear hb hy
    go_wp2_with fail
    go_roundw
    case rel =>
     refine⟨2,by omega,by omega,?_,by go_num,HU⟩
     rw [show 2-1=1 from rfl,HCF.out]
     exact congrArg Value.string (by first | (rw [ByteArray.mk_append_mk];simp;done) | (rw [show ByteArray.mk #[32]=ByteArray.mk [32].toArray from rfl,ByteArray.mk_append_mk,ByteArray.mk_append_mk];simp))
    case measure=>simp [intOf];omega
   ·have hzJ:(1:Int)<(k:Int):=by omega
    have HCF:Hid (argS (ys.take k)=argS (ys.take (k-1))++[32,44]++[32]++y):=Lib.hid (by
     rw [HTK.out,argS_snoc,if_neg]
     ·simp
     intro h
     have hi:=(List.getElem?_eq_some_iff.1 HY.out).1
     have:=congrArg List.length h
     simp only [List.length_take,List.length_nil] at this
     omega)
    generalize argS (ys.take (k-1))=T at *
    have s2:(ByteArray.mk (f++[32,40]++T).toArray).size=f.length+2+T.length:=by show (f++[32,40]++T).toArray.size=_;simp;omega
    have hc1:ByteArray.mk (f++[32,40]++T).toArray++ByteArray.mk #[32,44]=⟨(f++[32,40]++T++[32,44]).toArray⟩:=by
     show _++ByteArray.mk [32,44].toArray=_
     rw [ByteArray.mk_append_mk]
    have s3:(ByteArray.mk (f++[32,40]++T++[32,44]).toArray).size=f.length+2+T.length+2:=by show (f++[32,40]++T++[32,44]).toArray.size=_;simp;omega
    have hc2:ByteArray.mk (f++[32,40]++T++[32,44]).toArray++ByteArray.mk #[32]=⟨(f++[32,40]++T++[32,44]++[32]).toArray⟩:=by
     show _++ByteArray.mk [32].toArray=_
     rw [ByteArray.mk_append_mk]
    have s4:(ByteArray.mk (f++[32,40]++T++[32,44]++[32]).toArray).size=f.length+2+T.length+2+1:=by show (f++[32,40]++T++[32,44]++[32]).toArray.size=_;simp;omega
    have sm1:f.length+2+T.length+2≤9223372036854775807:=by omega
    have sm2:f.length+2+T.length+2+1≤9223372036854775807:=by omega
    have sm3:f.length+2+T.length+2+1+y.length≤9223372036854775807:=by omega
    clear hb hy hz
    go_wp2_with fail
    go_roundw
    case rel =>
     refine⟨k+1,by omega,by omega,?_,by go_num,HU⟩
     rw [Nat.add_sub_cancel,HCF.out]
     exact congrArg Value.string (by first | (rw [ByteArray.mk_append_mk];simp;done) | (rw [show ByteArray.mk #[32,44]=ByteArray.mk [32,44].toArray from rfl,show ByteArray.mk #[32]=ByteArray.mk [32].toArray from rfl,ByteArray.mk_append_mk,ByteArray.mk_append_mk,ByteArray.mk_append_mk];simp))
    case measure=>simp [intOf];omega
  ·have hgeI:¬(k:Int)<xs.length:=by omega
   have HTA:Hid (ys.take (k-1)=ys):=Lib.hid (List.take_of_length_le (by
    have:ys.length+1=xs.length:=by rw [HXS.out];simp
    omega))
   rw [HTA.out] at hcl ⊢
   have s2:(ByteArray.mk (f++[32,40]++argS ys).toArray).size=f.length+2+(argS ys).length:=by show (f++[32,40]++argS ys).toArray.size=_;simp;omega
   have sm1:f.length+2+(argS ys).length+2≤9223372036854775807:=by omega
   clear hb
   go_wp2_with fail
   go_ret
   exact⟨congrArg (fun z=>Ending.returned (.string z)) (by rw [show ByteArray.mk #[32,41]=ByteArray.mk [32,41].toArray from rfl,ByteArray.mk_append_mk];simp),HW.out⟩
end Go.Proofs.YtkhbpebpljdifaaGreatDoor
