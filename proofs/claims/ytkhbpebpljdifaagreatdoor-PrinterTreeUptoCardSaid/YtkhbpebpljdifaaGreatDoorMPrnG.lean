/- Merged texts. -/
import Derived.Test.YtkhbpebpljdifaaGreatDoorMPri
set_option maxRecDepth 100000
set_option maxHeartbeats 25600000
namespace Go.Proofs.YtkhbpebpljdifaaGreatDoor
open Go.PL
theorem jn_one (t:PL.Tok):jn [t]=t.text:=by simp [jn_cons]
end Go.Proofs.YtkhbpebpljdifaaGreatDoor
namespace Go.PL
open Go.RowKit Go.MapKept
open Go.Maps (Keyed)
section
variable {P:Program} {k:TypeId} {w w':World} {b:Nat} {L:List (Value×Value)}
end
section
variable {P:Program} (w:World) {ops:Array Oper} {rest:List Oper} {o:Oper} {a:Act} {Q:Exit→Act→World→Prop}
end
section
variable {P:Program} (w:World)
end
section
variable {P:Program} (w:World)
end
def bv (b:UInt8):Value:=.int .u8 b.toNat
theorem conv_str {P:Program} {w:World} {src e dst:TypeId} (hs:P.underlying src=some (.slice e)) (he:P.underlying e=some (.int .u8)) (hd:P.underlying dst=some .string) {v:Value} {bs:List UInt8}
  (h:SlC w v (bs.map bv)):(convert src dst v).run P w=.ok (.string ⟨bs.toArray⟩) w:=by
 rcases h with⟨h0,a,c,rfl⟩ | ⟨g,o,c,rfl,hc⟩
 ·have hb:bs=[]:=by simpa using h0
  subst hb
  cases a with
  | none=>exact run_convert_bytes_nil w src e hs he 0 c dst hd
  | some a =>
   have hl:(loadCells a 0).run P w=.ok #[] w:=by simp [loadCells,loadCellsFrom]
   rw [run_convert_bytes_string w src dst e _ 0 c hs he hd,run_bytesToString w a 0 c [] (by simpa using hl)]
   rfl
 ·have:=run_convert_bytes_arg (P:=P) w src e hs he g o (bs.map bv).length c (bs.map fun b=>(b.toNat:Int)) (by simp) (fun i hi=>by
   simp at hi
   have:=hc i (bv bs[i]) (by simp [hi])
   rw [this]
   simp [bv,hi]) dst hd
  rw [this]
  congr 2
  simp only [strOfNums,List.map_map,Function.comp_def,Int.toNat_natCast,UInt8.ofNat_toNat,List.map_id']
section
variable {P:Program} (w:World) {o:Oper} {ac:Act} {Q:Exit→Act→World→Prop}
end
end Go.PL
namespace Go.Proofs.YtkhbpebpljdifaaGreatDoor
open Go.RowKit Go.PL Go.Maps
theorem cells3 {w:World} {p:Nat} {a b c:Value} {r:List Value} {t:TypeId} {z:Nat×Nat} (h:w.heap[p]?=some (.cells (a::b::c::r).toArray t z)):w.cell? ⟨p,0,none⟩=some a∧w.cell? ⟨p,1,none⟩=some b∧w.cell? ⟨p,2,none⟩=some c :=
 ⟨by simpa using kAz h 0,by simpa using kAz h 1,by simpa using kAz h 2⟩
theorem sorted_calls (s:Int) (w:World):Calls Tryz.prog 20 #[.int .i64 s] w fun e w'=>e=.returned (.string ⟨(kOj s).toArray⟩)∧Upto [] w w':=by
 have HU:=Lib.hid (Upto.refl [] w)
 by_cases h0:s=0
 ·subst h0
  go_enter Tryz.func20,Tryz.ntmps20
  go_wp2_with fail
  go_ret
  exact⟨rfl,HU.out⟩
 by_cases h1:s=1
 ·subst h1
  go_enter Tryz.func20,Tryz.ntmps20
  go_wp2_with fail
  go_ret
  exact⟨rfl,HU.out⟩
 by_cases h2:s=2
 ·subst h2
  go_enter Tryz.func20,Tryz.ntmps20
  go_wp2_with fail
  go_ret
  exact⟨rfl,HU.out⟩
 by_cases h3:s=3
 ·subst h3
  go_enter Tryz.func20,Tryz.ntmps20
  go_wp2_with fail
  go_ret
  exact⟨rfl,HU.out⟩
 have e:kOj s=[]:=by unfold kOj;rw [if_neg h0,if_neg h1,if_neg h2,if_neg h3]
 rw [e]
 have b0:(s==0)=false:=by simpa using h0
 have b1:(s==1)=false:=by simpa using h1
 have b2:(s==2)=false:=by simpa using h2
 have b3:(s==3)=false:=by simpa using h3
 go_enter Tryz.func20,Tryz.ntmps20
 go_wp2_with fail
 go_ret
 exact⟨rfl,HU.out⟩
theorem conv_digit (wr:World) (m:Nat):(convert 115 9 (.slice (some ⟨wr.heap.size,0,none⟩) 1 1)).run Tryz.prog (wr.alloc (.cells #[.int .u8 (48+(m:Int) % 10)] 5))=.ok (.string ⟨[UInt8.ofNat (48+m % 10)].toArray⟩) (wr.alloc (.cells #[.int .u8 (48+(m:Int) % 10)] 5)):=by
 refine conv_str Tryz.underlying115 Tryz.underlying5 Tryz.underlying9 (Or.inr ⟨wr.heap.size,0,1,rfl,fun j u hj=>?_⟩)
 match j,hj with
 | 0,hj =>
  simp only [List.map_cons,List.getElem?_cons_zero,Option.some.injEq] at hj
  rw [←hj,kAz (kAq _ _)]
  simp only [bv,digit_nat]
  rfl
 | j+1,hj=>simp at hj
theorem conv_dig (wr:World) (k:Nat) (hk:k<10):(convert 115 9 (.slice (some ⟨wr.heap.size,0,none⟩) 1 1)).run Tryz.prog (wr.alloc (.cells #[.int .u8 (48+(k:Int))] 5))=.ok (.string ⟨#[UInt8.ofNat (48+k)]⟩) (wr.alloc (.cells #[.int .u8 (48+(k:Int))] 5)):=by
 have h:=conv_digit wr k
 rw [Nat.mod_eq_of_lt hk,show (k:Int) % 10=k by omega] at h
 exact h
theorem conv_byte (W:World) (B b:Nat) (hb:b<10) (h:W.cell? ⟨B,0,none⟩=some (.int .u8 (48+(b:Int)))):(convert 115 9 (.slice (some ⟨B,0,none⟩) 1 1)).run Tryz.prog W=.ok (.string ⟨#[UInt8.ofNat (48+b)]⟩) W:=by
 refine conv_str Tryz.underlying115 Tryz.underlying5 Tryz.underlying9 (Or.inr ⟨B,0,1,rfl,fun j u hj=>?_⟩)
 match j,hj with
 | 0,hj =>
  simp only [List.map_cons,List.getElem?_cons_zero,Option.some.injEq] at hj
  rw [←hj,h]
  have:=digit_nat b
  rw [Nat.mod_eq_of_lt hb] at this
  simp only [bv,this]
  rfl
 | j+1,hj=>simp at hj
theorem conW_word {k:Nat} (h:12≤k∧k<16):conW (k:Int)=wordsF.getD k []:=by
 have:k=12∨k=13∨k=14∨k=15:=by omega
 rcases this with rfl | rfl | rfl | rfl<;>rfl
theorem quW_word {k:Nat} (h:16≤k∧k<18):quW (k:Int)=wordsF.getD k []:=by
 have:k=16∨k=17:=by omega
 rcases this with rfl | rfl<;>rfl
theorem wordsF_len:∀k:Nat,(wordsF.getD k []).length≤10:=by
 intro k
 by_cases h:k<18
 ·have key:∀m:_root_.Fin 18,(wordsF.getD m.val []).length≤10:=by decide
  exact key ⟨k,h⟩
 ·rw [List.getD_eq_getElem?_getD,List.getElem?_eq_none (by show wordsF.length≤k;simp [wordsF];omega)]
  simp
def argS (ys:List (List UInt8)):List UInt8:=(argT ys).flatMap (fun u=>32::u.text)
theorem argS_nil:argS []=[]:=rfl
theorem argS_snoc:∀(xs:List (List UInt8)) (y:List UInt8),argS (xs++[y])=argS xs++(if xs=[] then [] else [32,44])++32::y
 | [],y=>by simp [argS,argT,idT]
 | [x],y=>by simp [argS,argT,idT,puT]
 | x::z::r,y=>by
  have h:=argS_snoc (z::r) y
  rw [if_neg (by simp)] at h ⊢
  simp only [argS,List.cons_append,argT,List.flatMap_cons] at h ⊢
  rw [h]
  simp
theorem argS_len (ys:List (List UInt8)) (h:∀x∈ys,x.length≤16):(argS ys).length≤19*ys.length:=by
 have h1:=arg_wts ys h
 have:∀L:List PL.Tok,(L.flatMap fun u=>32::u.text).length=wts L:=by
  intro L
  induction L with
  | nil=>rfl
  | cons t r ih=>simp only [List.flatMap_cons,List.length_append,ih,kDw,List.length_cons,wt]
 unfold argS
 rw [this]
 exact h1
theorem atom_true {names:List (List UInt8)} {n m:Int}:jn (kIk 0 names n m)=[116,114,117,101]:=rfl
theorem atom_false {names:List (List UInt8)} {n m:Int}:jn (kIk 1 names n m)=[102,97,108,115,101]:=rfl
theorem atom_two {k:Nat} (h2:2≤k) (h7:k<7) {x y:List UInt8} {n m:Int}:jn (kIk k [x,y] n m)=x++[32]++wordsF.getD k []++[32]++y:=by
 unfold kIk
 rw [if_neg (by omega),if_neg (by omega),if_pos (by omega),←rel_word ⟨h2,h7⟩,jn_cons]
 simp [idT]
theorem atom_is {x:List UInt8} {q:Nat} {m:Int}:jn (kIk 7 [x] q m)=x++[32,105,115,32]++digF 3 q:=by
 unfold kIk
 rw [if_neg (by omega),if_neg (by omega),if_neg (by omega),if_pos rfl,jn_cons]
 simp [idT,kyT,nmT]
theorem atom_size {x:List UInt8} {q p:Nat}:jn (kIk 8 [x] q p)=[115,105,122,101,32]++x++[32,109,111,100,32]++digF 3 p++[32,105,115,32]++digF 3 q:=by
 unfold kIk
 rw [if_neg (by omega),if_neg (by omega),if_neg (by omega),if_neg (by omega),if_pos rfl,jn_cons]
 simp [idT,kyT,nmT]
theorem atom_one {x:List UInt8} {n m:Int}:jn (kIk 9 [x] n m)=[111,110,101,32]++x:=by
 unfold kIk
 rw [if_neg (by omega),if_neg (by omega),if_neg (by omega),if_neg (by omega),if_neg (by omega),if_pos rfl,jn_cons]
 simp [idT,kyT]
theorem atom_call {f:List UInt8} {ys:List (List UInt8)} {n m:Int}:jn (kIk 10 (f::ys) n m)=f++[32,40]++argS ys++[32,41]:=by
 unfold kIk
 rw [if_neg (by omega),if_neg (by omega),if_neg (by omega),if_neg (by omega),if_neg (by omega),if_neg (by omega),jn_cons]
 simp [idT,puT,argS]
theorem frS_nil:frS []=[]:=rfl
theorem frS_snoc:∀(f:List (List UInt8×Int)) (v:List UInt8×Int),frS (f++[v])=frS f++(if f=[] then [] else [32,44])++[32]++kDj.getD v.2.toNat []++[32]++v.1
 | [],v=>by simp [frS,varB,idT,kyT]
 | [x],v=>by simp [frS,varB,idT,kyT,puT]
 | x::z::r,v=>by
  have h:=frS_snoc (z::r) v
  rw [if_neg (by simp)] at h ⊢
  simp only [frS,List.cons_append,varB,List.flatMap_cons] at h ⊢
  rw [h]
  simp
end Go.Proofs.YtkhbpebpljdifaaGreatDoor
namespace Go.Proofs
open Go.Shelf
def Tryz.lays169_ren:Go.Shelf.Ren:=⟨fun | 169=>86 | n=>n,fun | 70=>114 | 9=>9 | 0=>0 | 72=>117 | 37=>115 | 127=>154 | 3=>3 | 5=>5 | n=>n,fun | n=>n⟩
theorem Tryz.lays169:Go.Proofs.Lays.n169 Tryz.prog Tryz.lays169_ren:={
 mixed:=by kernel_rfl
 f169:=Tryz.func86.trans (congrArg some (by kernel_rfl))
 t0:=Tryz.underlying0
 a0:=Tryz.isAgg0
 z0:=Tryz.sizeOf0
 v0:=Tryz.zeroValue0
 t3:=Tryz.underlying3
 a3:=Tryz.isAgg3
 z3:=Tryz.sizeOf3
 v3:=Tryz.zeroValue3
 t9:=Tryz.underlying9
 a9:=Tryz.isAgg9
 z9:=Tryz.sizeOf9
 v9:=Tryz.zeroValue9
 t37:=Tryz.underlying115
 a37:=Tryz.isAgg115
 z37:=Tryz.sizeOf115
 v37:=Tryz.zeroValue115
 t70:=Tryz.underlying114
 a70:=Tryz.isAgg114
 z70:=Tryz.sizeOf114
 v70:=Tryz.zeroValue114
 t72:=Tryz.underlying117
 a72:=Tryz.isAgg117
 z72:=Tryz.sizeOf117
 v72:=Tryz.zeroValue117
 t127:=Tryz.underlying154
 a127:=Tryz.isAgg154
 z127:=Tryz.sizeOf154
 v127:=Tryz.zeroValue154 }
theorem Tryz.Builder_Extra_169:Builder.Extra Tryz.prog Tryz.lays169_ren:={
 sizeBuilder:=by kernel_rfl
 liesBuilder:=by kernel_rfl
 t5:=Tryz.underlying5
 a5:=Tryz.isAgg5
 z5:=Tryz.sizeOf5
 v5:=Tryz.zeroValue5
 infoByte:=by kernel_rfl
 cellsByte:=by kernel_rfl
 sizeByte:=by kernel_rfl
 neB5:=by decide }
open Go.RowKit in
theorem Tryz.Builder_String_any (B b:Nat) (l:List UInt8) (w:World) (h:Lib.IsBuilder 117 5 B b (Lib.byteCells l) w) (hBw:B≤w.heap.size) :
  Calls Tryz.prog 86 #[.pointer (some ⟨b,0,none⟩)] w fun e w'=>e=.returned (.string ⟨l.toArray⟩)∧Below B w w':=Any.Builder_String_any Tryz.lays169 Tryz.Builder_Extra_169 B b l w h hBw
def Tryz.lays105_ren:Go.Shelf.Ren:=⟨fun | 105=>122 | 212=>143 | 99=>144 | 165=>120 | 166=>83 | 170=>145 | 169=>86 | 263=>157 | 264=>158 | 206=>159 | 240=>121 | 241=>141 | 276=>142 | 277=>156 | n=>n,fun | 9=>9 | 3=>3 | 4=>4 | 20=>20 | 0=>0 | 46=>173 | 109=>174 | 5=>5 | 72=>117 | 76=>120 | 51=>184 | 146=>185 | 53=>168 | 148=>187 | 70=>114 | 37=>115 | 75=>119 | 127=>154 | 164=>171 | 80=>124 | n=>n,fun | n=>n⟩
theorem Tryz.lays105:Go.Proofs.Lays.n105 Tryz.prog Tryz.lays105_ren:={
 mixed:=by kernel_rfl
 f99:=Tryz.func144.trans (congrArg some (by kernel_rfl))
 f105:=Tryz.func122.trans (congrArg some (by kernel_rfl))
 f165:=Tryz.func120.trans (congrArg some (by kernel_rfl))
 f166:=Tryz.func83.trans (congrArg some (by kernel_rfl))
 f169:=Tryz.func86.trans (congrArg some (by kernel_rfl))
 f170:=Tryz.func145.trans (congrArg some (by kernel_rfl))
 f206:=Tryz.func159.trans (congrArg some (by kernel_rfl))
 f212:=Tryz.func143.trans (congrArg some (by kernel_rfl))
 f240:=Tryz.func121.trans (congrArg some (by kernel_rfl))
 f241:=Tryz.func141.trans (congrArg some (by kernel_rfl))
 f263:=Tryz.func157.trans (congrArg some (by kernel_rfl))
 f264:=Tryz.func158.trans (congrArg some (by kernel_rfl))
 f276:=Tryz.func142.trans (congrArg some (by kernel_rfl))
 f277:=Tryz.func156.trans (congrArg some (by kernel_rfl))
 t0:=Tryz.underlying0
 a0:=Tryz.isAgg0
 z0:=Tryz.sizeOf0
 v0:=Tryz.zeroValue0
 t3:=Tryz.underlying3
 a3:=Tryz.isAgg3
 z3:=Tryz.sizeOf3
 v3:=Tryz.zeroValue3
 t4:=Tryz.underlying4
 a4:=Tryz.isAgg4
 z4:=Tryz.sizeOf4
 v4:=Tryz.zeroValue4
 t5:=Tryz.underlying5
 a5:=Tryz.isAgg5
 z5:=Tryz.sizeOf5
 v5:=Tryz.zeroValue5
 t9:=Tryz.underlying9
 a9:=Tryz.isAgg9
 z9:=Tryz.sizeOf9
 v9:=Tryz.zeroValue9
 t20:=Tryz.underlying20
 a20:=Tryz.isAgg20
 z20:=Tryz.sizeOf20
 v20:=Tryz.zeroValue20
 t37:=Tryz.underlying115
 a37:=Tryz.isAgg115
 z37:=Tryz.sizeOf115
 v37:=Tryz.zeroValue115
 t46:=Tryz.underlying173
 a46:=Tryz.isAgg173
 z46:=Tryz.sizeOf173
 v46:=Tryz.zeroValue173
 t51:=Tryz.underlying184
 a51:=Tryz.isAgg184
 z51:=Tryz.sizeOf184
 v51:=Tryz.zeroValue184
 t53:=Tryz.underlying168
 a53:=Tryz.isAgg168
 z53:=Tryz.sizeOf168
 v53:=Tryz.zeroValue168
 t70:=Tryz.underlying114
 a70:=Tryz.isAgg114
 z70:=Tryz.sizeOf114
 v70:=Tryz.zeroValue114
 t72:=Tryz.underlying117
 a72:=Tryz.isAgg117
 z72:=Tryz.sizeOf117
 v72:=Tryz.zeroValue117
 t75:=Tryz.underlying119
 a75:=Tryz.isAgg119
 z75:=Tryz.sizeOf119
 v75:=Tryz.zeroValue119
 t76:=Tryz.underlying120
 a76:=Tryz.isAgg120
 z76:=Tryz.sizeOf120
 v76:=Tryz.zeroValue120
 t109:=Tryz.underlying174
 a109:=Tryz.isAgg174
 z109:=Tryz.sizeOf174
 v109:=Tryz.zeroValue174
 t127:=Tryz.underlying154
 a127:=Tryz.isAgg154
 z127:=Tryz.sizeOf154
 v127:=Tryz.zeroValue154
 t146:=Tryz.underlying185
 a146:=Tryz.isAgg185
 z146:=Tryz.sizeOf185
 v146:=Tryz.zeroValue185
 t148:=Tryz.underlying187
 a148:=Tryz.isAgg187
 z148:=Tryz.sizeOf187
 v148:=Tryz.zeroValue187
 t164:=Tryz.underlying171
 a164:=Tryz.isAgg171
 z164:=Tryz.sizeOf171
 v164:=Tryz.zeroValue171 }
theorem Tryz.Builder_Extra_105:Builder.Extra Tryz.prog Tryz.lays105_ren:={
 sizeBuilder:=by kernel_rfl
 liesBuilder:=by kernel_rfl
 t5:=Tryz.underlying5
 a5:=Tryz.isAgg5
 z5:=Tryz.sizeOf5
 v5:=Tryz.zeroValue5
 infoByte:=by kernel_rfl
 cellsByte:=by kernel_rfl
 sizeByte:=by kernel_rfl
 neB5:=by decide }
open Go.RowKit Go.Lib in
theorem Tryz.strings_Repeat (s:ByteArray) (c:Nat) (w:World) (hc:c≤9223372036854775807) (hlen:s.size*c≤140737488355328) :
  Calls Tryz.prog 122 #[.string s,.int .i64 c] w fun e w'=>e=.returned (.string ⟨(Lib.repeatL s.data.toList c).toArray⟩)∧Below w.heap.size w w':=Any.strings_Repeat Tryz.lays105 Tryz.Builder_Extra_105 s c w hc hlen
end Go.Proofs
namespace Go.Proofs.YtkhbpebpljdifaaGreatDoor
open Go.RowKit Go.PL Go.Maps
theorem infoBd:(Tryz.prog.info? 117).map (·.size)=some 2:=by kernel_rfl
theorem liesBd:liesAt Tryz.prog Tryz.prog.depth 117 (2 / Tryz.prog.cellsOf 117) 0 117 1=true:=by kernel_rfl
theorem infoU8:(Tryz.prog.info? 5).map (fun i=>(i.zero,i.size,i.bytes))=some (some (.int .u8 0),1,1):=by kernel_rfl
theorem check_used (b:Nat) (w:World) (h0:w.cell? ⟨b,0,none⟩=some (.pointer (some ⟨b,0,none⟩))):Calls Tryz.prog 121 #[.pointer (some ⟨b,0,none⟩)] w fun e w'=>e=.returned (.tuple #[])∧w'=w:=by
 obtain⟨j,hj,-⟩:=Option.map_eq_some_iff.1 infoBd
 go_enter Tryz.func121,Tryz.ntmps121
 go_wp2_with fail
 rw [Lib.run_neq_ptr_same w _ Tryz.underlying114 hj]
 go_wp2_with fail
 go_end0
 exact⟨rfl,rfl⟩
theorem check_fresh (b:Nat) (w:World) (h0:w.cell? ⟨b,0,none⟩=some (.pointer none)) (hsh:w.shape? b=some (117,2)) (hfz:w.frozen? ⟨b,0,none⟩=false):Calls Tryz.prog 121 #[.pointer (some ⟨b,0,none⟩)] w fun e w'=>e=.returned (.tuple #[])∧w'=w.setCell ⟨b,0,none⟩ (.pointer (some ⟨b,0,none⟩)):=by
 obtain⟨j,hj,hjs⟩:=Option.map_eq_some_iff.1 infoBd
 go_enter Tryz.func121,Tryz.ntmps121
 go_wp2_with fail
 rw [Lib.run_to_unsafe w ⟨b,0,none⟩ Tryz.underlying114 Tryz.underlying171 hj (by rw [hjs];decide) hsh (Nat.zero_lt_succ 1)]
 simp only [Result.andThen]
 rw [Oper.upon_value]
 go_wp2_with fail
 rw [run_callFunc_extern Tryz.func142 (by kernel_rfl) (by kernel_rfl) (by kernel_rfl) (e:=Extern.AbiNoEscape.same) (by kernel_rfl)]
 rw [Lib.run_noEscape]
 simp only [Result.andThen]
 rw [Oper.upon_value]
 go_wp2_with fail
 rw [Lib.run_from_unsafe w ⟨b,0,none⟩ Tryz.underlying171 Tryz.underlying114 hj hsh liesBd]
 simp only [Result.andThen]
 rw [Oper.upon_value]
 go_wp2_with fail
 go_end0
 exact⟨rfl,rfl⟩
def BdI (w0 w:World) (b:Nat) (bs:List UInt8):Prop:=Lib.IsBuilder 117 5 w0.heap.size b (Lib.byteCells bs) w∧Upto [] w0 w
theorem BdI.new (w:World):BdI w (w.alloc (.cells #[.pointer none,.slice none 0 0] 117)) w.heap.size []:=⟨Lib.fresh_isBuilder _ _ w,(Upto.refl [] w).alloc _⟩
theorem check_calls {w0 w:World} {b:Nat} {bs:List Value} (h:Lib.IsBuilder 117 5 w0.heap.size b bs w):Calls Tryz.prog 121 #[.pointer (some ⟨b,0,none⟩)] w fun e w'=>e=.returned (.tuple #[])∧Lib.BuilderAt 117 5 w0.heap.size b (.pointer (some ⟨b,0,none⟩)) bs w'∧(w'=w∨w'=w.setCell ⟨b,0,none⟩ (.pointer (some ⟨b,0,none⟩))):=by
 rcases h with h | h
 ·refine (check_fresh b w h.cell0 h.shape h.frozen0).mono ?_
  rintro e w' ⟨rfl,rfl⟩
  exact⟨rfl,h.used _,Or.inr rfl⟩
 ·refine (check_used b w h.cell0).mono ?_
  rintro e w' ⟨rfl,rfl⟩
  exact⟨rfl,h,Or.inl rfl⟩
def BdK (w w':World) (b:Nat):Prop:=w.heap.size≤w'.heap.size∧∀(B:Nat) (cs:Array Value) (t:TypeId) (z:Nat×Nat),t≠5→B≠b→w.heap[B]?=some (.cells cs t z)→w'.heap[B]?=some (.cells cs t z)
theorem BdK.refl (w:World) (b:Nat):BdK w w b:=⟨Nat.le_refl _,fun _ _ _ _ _ _ h=>h⟩
theorem BdK.trans {a b c:World} {p:Nat} (h:BdK a b p) (k:BdK b c p):BdK a c p:=⟨Nat.le_trans h.1 k.1,fun B cs t z h1 h2 h3=>k.2 B cs t z h1 h2 (h.2 B cs t z h1 h2 h3)⟩
theorem BdK.ext {w w':World} (b:Nat) (hu:Upto [] w w'):BdK w w' b:=⟨hu.size,fun B cs t z _ _ h=>hu.at h (by simp)⟩
theorem BdI.ext {w0 w w':World} {b:Nat} {bs:List UInt8} (h:BdI w0 w b bs) (hu:Upto [] w w'):BdI w0 w' b bs:=by
 refine⟨?_,h.2.trans_ext hu⟩
 have key:∀p,Lib.BuilderAt 117 5 w0.heap.size b p (Lib.byteCells bs) w→Lib.BuilderAt 117 5 w0.heap.size b p (Lib.byteCells bs) w':=by
  rintro p ⟨hB,v,hb,hown,hne⟩
  exact⟨hB,v,hu.at hb (by simp),kIx hown hu (by simp),hne⟩
 exact h.1.elim (fun x=>Or.inl (key _ x)) (fun x=>Or.inr (key _ x))
theorem row_type {w:World} {B:Nat} {e:TypeId} {z:Nat} {v:Value} {n:Nat} {xs:List Value} (h:w.ownsRow B e z v n xs) {g:Nat} (hg:v.ownBlock=some g):∃cur,w.heap[g]?=some (.cells cur e (0,0)):=by
 rcases h.2 with⟨hv,-⟩ | ⟨g',cap,cur,hv,-,hh,-⟩
 ·rw [hv] at hg;cases hg
 ·rw [hv] at hg
  simp only [Value.ownBlock,Option.some.injEq] at hg
  subst hg
  exact⟨cur,hh⟩
theorem check_keep {w w1:World} {b:Nat} (h:w1=w∨w1=w.setCell ⟨b,0,none⟩ (.pointer (some ⟨b,0,none⟩))):BdK w w1 b:=by
 rcases h with rfl | rfl
 ·exact BdK.refl _ _
 ·have hu:Upto [b] w (w.setCell ⟨b,0,none⟩ (.pointer (some ⟨b,0,none⟩))):=(Upto.refl [b] w).setCell (Or.inl (by simp)) _
  exact⟨hu.size,fun B cs t z _ hne h=>hu.at h (by simpa using hne)⟩
theorem check_up {w0 w w1:World} {b:Nat} (hb:w0.heap.size≤b) (hu:Upto [] w0 w) (h:w1=w∨w1=w.setCell ⟨b,0,none⟩ (.pointer (some ⟨b,0,none⟩))):Upto [] w0 w1:=by
 rcases h with rfl | rfl
 ·exact hu
 ·exact hu.setCell (p:=⟨b,0,none⟩) (Or.inr hb) _
theorem put_keep {w1 w2:World} {b:Nat} {v:Value} {v':Value} {n:Nat} {xs:List Value} {base:Nat} (hown:w1.ownsRow base 5 1 v n xs) (hg:w1.grownBy w2 v.ownBlock):BdK w1 (w2.setCell ⟨b,1,none⟩ v') b:=by
 have hu:Upto v.ownBlock.toList w1 w2:=(Upto.refl _ w1).grown hg (fun k hk=>Or.inl (by rw [hk];simp))
 have hs:Upto [b] w2 (w2.setCell ⟨b,1,none⟩ v'):=(Upto.refl [b] w2).setCell (Or.inl (by simp)) _
 refine⟨Nat.le_trans hu.size hs.size,fun B cs t z ht hne h=>hs.at (hu.at h (fun hm=>?_)) (by simpa using hne)⟩
 obtain⟨cur,hc⟩:=row_type hown (Option.mem_toList.1 hm)
 rw [h] at hc
 simp only [Option.some.injEq,Obj.cells.injEq] at hc
 exact ht hc.2.1
theorem wstr_calls (w0 w:World) (b:Nat) (bs s:List UInt8) (h:BdI w0 w b bs) (hl:bs.length+s.length≤140737488355328):Calls Tryz.prog 83 #[.pointer (some ⟨b,0,none⟩),.string ⟨s.toArray⟩] w fun e w'=>e=.returned (.tuple #[.int .i64 s.length,.nilIface])∧BdI w0 w' b (bs++s)∧BdK w w' b:=by
 obtain⟨i0,hi,hz0,hz1,hz2⟩:=info_parts infoU8
 have HC:=Lib.hid (check_calls h.1)
 have HU:=Lib.hid h.2
 have s0:(ByteArray.mk s.toArray).size=s.length:=rfl
 have HS:Hid (Lib.strCells ⟨s.toArray⟩=Lib.byteCells s):=Lib.hid rfl
 have HBL:Hid ((Lib.byteCells bs).length=bs.length):=Lib.hid (Lib.byteCells_length bs)
 have hsz:=h.2.size
 clear h
 go_enter Tryz.func83,Tryz.ntmps83
 go_wp2_with fail
 refine HC.out.mono ?_
 rintro e w1 ⟨rfl,⟨hB,v,hbk,hown,hne⟩,hw1⟩
 have HK1:=Lib.hid (check_keep hw1)
 have HU1:=Lib.hid (check_up hB HU.out hw1)
 have hsz1:=HU1.out.size
 rw [HBL.out] at hown
 have HOW:=Lib.hid hown
 have c0:w1.cell? ⟨b,0,none⟩=some (.pointer (some ⟨b,0,none⟩)):=by rw [Lib.cell_of_heap hbk];rfl
 have c1:w1.cell? ⟨b,1,none⟩=some v:=by rw [Lib.cell_of_heap hbk];rfl
 clear hw1 HC
 go_wp2_with (at_builtin;refine Lib.wpList_append_own_string _ rfl _ _ 115 9 rfl w0.heap.size 5 i0 Tryz.underlying115 Tryz.underlying9 hi hz0 hz1 hz2 _ _ _ rfl HOW.out ⟨s.toArray⟩ rfl ?c3 ?c4 ?c5 ?_)
 case c3=>unfold maxLen;omega
 case c4=>omega
 case c5=>omega
 intro v' w2 hown' hgrow _
 have hlt:=kAk hbk
 have hb2:w2.heap[b]?=some (.cells #[.pointer (some ⟨b,0,none⟩),v] 117 (0,0)):=by
  rw [hgrow.block b hlt (fun e=>hne e.symm)]
  exact hbk
 have d0:w2.cell? ⟨b,0,none⟩=some (.pointer (some ⟨b,0,none⟩)):=by rw [Lib.cell_of_heap hb2];rfl
 have d1:w2.cell? ⟨b,1,none⟩=some v:=by rw [Lib.cell_of_heap hb2];rfl
 have f1:w2.frozen? ⟨b,1,none⟩=false:=Lib.frozen_of_heap hb2 1
 obtain⟨ao,n',cap,rfl⟩:∃ao n' cap,v'=.slice ao n' cap:=by
  rcases hown'.2 with⟨hv,_⟩ | ⟨g,cap,cur,hv,_⟩
  ·exact⟨_,_,_,hv⟩
  ·exact⟨_,_,_,hv⟩
 have HB2:Hid (BdI w0 (w2.setCell ⟨b,1,none⟩ (.slice ao n' cap)) b (bs++s)):=Lib.hid ⟨Or.inr (Lib.BuilderAt.put (T:=117) (e:=5) hB hb2 (bs':=Lib.byteCells (bs++s)) (by
  have e1:Lib.byteCells (bs++s)=Lib.byteCells bs++Lib.strCells ⟨s.toArray⟩:=by rw [HS.out];simp [Lib.byteCells]
  have e2:(Lib.byteCells (bs++s)).length=bs.length+s.length:=by rw [Lib.byteCells_length,List.length_append]
  rw [e2,e1]
  exact hown') (by decide)),(HU1.out.grown hgrow (fun k hk=>Or.inr (HOW.out.lt k hk).1)).setCell (p:=⟨b,1,none⟩) (Or.inr hB) _⟩
 have HK2:Hid (BdK w (w2.setCell ⟨b,1,none⟩ (.slice ao n' cap)) b):=Lib.hid (HK1.out.trans (put_keep HOW.out hgrow))
 clear hown' hgrow c0 c1 hown hne hbk hb2
 go_wp2_with fail
 go_ret2
 exact⟨rfl,HB2.out,HK2.out⟩
theorem wbyte_calls (w0 w:World) (b:Nat) (bs:List UInt8) (c:UInt8) (h:BdI w0 w b bs) (hl:bs.length+1≤140737488355328):Calls Tryz.prog 84 #[.pointer (some ⟨b,0,none⟩),.int .u8 c.toNat] w fun e w'=>e=.returned .nilIface∧BdI w0 w' b (bs++[c])∧BdK w w' b:=by
 obtain⟨i0,hi,hz0,hz1,hz2⟩:=info_parts infoU8
 have HC:=Lib.hid (check_calls h.1)
 have HU:=Lib.hid h.2
 have HBL:Hid ((Lib.byteCells bs).length=bs.length):=Lib.hid (Lib.byteCells_length bs)
 have hsz:=h.2.size
 have hc1:=c.toNat_lt
 obtain⟨cn,hcn⟩:∃cn,c.toNat=cn:=⟨_,rfl⟩
 rw [hcn] at hc1 ⊢
 have HCN:=Lib.hid hcn
 have hc0:(0:Int)≤cn:=by omega
 have hc2:(cn:Int)≤255:=by omega
 clear h hcn
 go_enter Tryz.func84,Tryz.ntmps84
 go_wp2_with fail
 refine HC.out.mono ?_
 rintro e w1 ⟨rfl,⟨hB,v,hbk,hown,hne⟩,hw1⟩
 have HK1:=Lib.hid (check_keep hw1)
 have HU1:=Lib.hid (check_up hB HU.out hw1)
 have hsz1:=HU1.out.size
 rw [HBL.out] at hown
 have ua:Upto [] w1 (w1.alloc (.cells #[.int .u8 cn] 5)):=(Upto.refl [] w1).alloc _
 have HOW:=Lib.hid (kIx hown ua (by simp))
 have hsrc:=kQk (l:=[.int .u8 (cn:Int)]) (kAq w1 (.cells #[.int .u8 cn] 5))
 have c0:w1.cell? ⟨b,0,none⟩=some (.pointer (some ⟨b,0,none⟩)):=by rw [Lib.cell_of_heap hbk];rfl
 have c1:w1.cell? ⟨b,1,none⟩=some v:=by rw [Lib.cell_of_heap hbk];rfl
 have HBK:=Lib.hid (ua.at hbk (by simp))
 have HUA:=Lib.hid (HU1.out.trans_ext ua)
 have HKA:=Lib.hid (HK1.out.trans (BdK.ext b ua))
 clear hw1 HC hown
 go_wp2_with (at_builtin;refine wpList_append_own _ rfl _ _ 115 rfl w0.heap.size 5 i0 (.int .u8 0) 1 1 Tryz.underlying115 hi hz0 hz1 hz2 rfl (by decide) _ _ _ rfl HOW.out ⟨w1.heap.size,0,none⟩ 1 1 [.int .u8 (cn:Int)] rfl rfl hsrc (by simp [Value.oneCell']) (by unfold maxLen;omega) (by omega) (by simp;omega) ?_)
 intro v' w2 hown' hgrow _
 have hb2:w2.heap[b]?=some (.cells #[.pointer (some ⟨b,0,none⟩),v] 117 (0,0)):=by
  rw [hgrow.block b (kAk HBK.out) (fun e=>hne e.symm)]
  exact HBK.out
 have d0:w2.cell? ⟨b,0,none⟩=some (.pointer (some ⟨b,0,none⟩)):=by rw [Lib.cell_of_heap hb2];rfl
 have d1:w2.cell? ⟨b,1,none⟩=some v:=by rw [Lib.cell_of_heap hb2];rfl
 have f1:w2.frozen? ⟨b,1,none⟩=false:=Lib.frozen_of_heap hb2 1
 obtain⟨ao,n',cap,rfl⟩:∃ao n' cap,v'=.slice ao n' cap:=by
  rcases hown'.2 with⟨hv,_⟩ | ⟨g,cap,cur,hv,_⟩
  ·exact⟨_,_,_,hv⟩
  ·exact⟨_,_,_,hv⟩
 have HB2:Hid (BdI w0 (w2.setCell ⟨b,1,none⟩ (.slice ao n' cap)) b (bs++[c])):=Lib.hid ⟨Or.inr (Lib.BuilderAt.put (T:=117) (e:=5) hB hb2 (bs':=Lib.byteCells (bs++[c])) (by
  have e1:Lib.byteCells (bs++[c])=Lib.byteCells bs++[.int .u8 (cn:Int)]:=by simp [Lib.byteCells,HCN.out]
  have e2:(Lib.byteCells (bs++[c])).length=bs.length+1:=by rw [Lib.byteCells_length,List.length_append];rfl
  rw [e2,e1]
  exact hown') (by decide)),(HUA.out.grown hgrow (fun k hk=>Or.inr (HOW.out.lt k hk).1)).setCell (p:=⟨b,1,none⟩) (Or.inr hB) _⟩
 have HK2:Hid (BdK w (w2.setCell ⟨b,1,none⟩ (.slice ao n' cap)) b):=Lib.hid (HKA.out.trans (put_keep HOW.out hgrow))
 clear hown' hgrow c0 c1 hne hbk hb2 hsrc
 go_wp2_with fail
 go_ret
 exact⟨rfl,HB2.out,HK2.out⟩
def refW:List (List UInt8):=[[116,114,117,101],[102,97,108,115,101],[61],[105,110],[115,117,98],[97,100,106],[111,110],[105,115],[115,105,122,101],[111,110,101],[],[110,111,116],[97,110,100],[111,114],[105,109,112,108,105,101,115],[105,102,102],[115,111,109,101],[101,118,101,114,121]]
theorem refW_at:∀k:_root_.Fin 18,(7≤k.val∧k.val<11)∨refW.getD k.val []=wordsF.getD k.val []:=by decide +kernel
theorem refW_word {k:Nat} (h:k<18) (h7:k<7∨11≤k):refW.getD k []=wordsF.getD k []:=by
 rcases refW_at ⟨k,h⟩ with h1 | h1
 ·simp only at h1;omega
 ·exact h1
theorem word_calls (k:Nat) (hk:k<18) (w:World):Calls Tryz.prog 114 #[.int .i64 (k:Int)] w fun e w'=>e=.returned (.string ⟨(refW.getD k []).toArray⟩)∧Upto [] w w':=by
 have HU:Hid (Upto [] w (w.alloc (.cells #[.string ⟨#[116,114,117,101]⟩,.string ⟨#[102,97,108,115,101]⟩,.string ⟨#[61]⟩,.string ⟨#[105,110]⟩,.string ⟨#[115,117,98]⟩,.string ⟨#[97,100,106]⟩,.string ⟨#[111,110]⟩,.string ⟨#[105,115]⟩,.string ⟨#[115,105,122,101]⟩,.string ⟨#[111,110,101]⟩,.string ⟨#[]⟩,.string ⟨#[110,111,116]⟩,.string ⟨#[97,110,100]⟩,.string ⟨#[111,114]⟩,.string ⟨#[105,109,112,108,105,101,115]⟩,.string ⟨#[105,102,102]⟩,.string ⟨#[115,111,109,101]⟩,.string ⟨#[101,118,101,114,121]⟩] 9))):=Lib.hid ((Upto.refl [] w).alloc _)
 obtain⟨W,hW⟩:∃W,refW.getD k []=W:=⟨_,rfl⟩
 have hc:(w.alloc (.cells #[.string ⟨#[116,114,117,101]⟩,.string ⟨#[102,97,108,115,101]⟩,.string ⟨#[61]⟩,.string ⟨#[105,110]⟩,.string ⟨#[115,117,98]⟩,.string ⟨#[97,100,106]⟩,.string ⟨#[111,110]⟩,.string ⟨#[105,115]⟩,.string ⟨#[115,105,122,101]⟩,.string ⟨#[111,110,101]⟩,.string ⟨#[]⟩,.string ⟨#[110,111,116]⟩,.string ⟨#[97,110,100]⟩,.string ⟨#[111,114]⟩,.string ⟨#[105,109,112,108,105,101,115]⟩,.string ⟨#[105,102,102]⟩,.string ⟨#[115,111,109,101]⟩,.string ⟨#[101,118,101,114,121]⟩] 9)).cell? ⟨w.heap.size,k,none⟩=some (.string ⟨W.toArray⟩):=by
  rw [kAz (kAq w _),←hW]
  show (refW.map sV).toArray[k]?=_
  rw [List.getElem?_toArray,List.getElem?_map,List.getD_eq_getElem?_getD]
  obtain⟨z,hz⟩:∃z,refW[k]?=some z:=⟨_,List.getElem?_eq_getElem (by simpa [refW] using hk)⟩
  rw [hz]
  rfl
 rw [hW]
 have q0:(0:Int)≤k:=by omega
 have q1:(k:Int)<18:=by omega
 clear hW hk
 go_enter Tryz.func114,Tryz.ntmps114
 go_wp2_with fail
 go_ret
 exact⟨rfl,HU.out⟩
theorem rdig1_calls (k:Nat) (hk:k<10) (w:World):Calls Tryz.prog 136 #[.int .i64 k] w fun e w'=>e=.returned (.string ⟨#[UInt8.ofNat (48+k)]⟩)∧Upto [] w w':=by
 have hcv:=conv_dig w k hk
 have q0:(k:Int)<10:=by omega
 have q1:(0:Int)≤k:=by omega
 have HU:=Lib.hid ((Upto.refl [] w).alloc (.cells #[.int .u8 (48+(k:Int))] 5))
 go_enter Tryz.func136,Tryz.ntmps136
 go_wp2_with fail
 go_ret
 exact⟨by rw [show UInt8.ofNat (48+k)=48+UInt8.ofNat k from by simp [UInt8.ofNat_add]];rfl,HU.out⟩
theorem rdig2_calls (a b:Nat) (ha:1≤a∧a<10) (hb:b<10) (n:Int) (hn:n=10*a+b) (w:World):Calls Tryz.prog 136 #[.int .i64 n] w fun e w'=>e=.returned (.string ⟨#[UInt8.ofNat (48+a),UInt8.ofNat (48+b)]⟩)∧Upto [] w w':=by
 have q0:¬n<10:=by omega
 have t0:n.tdiv 10=(a:Int):=by rw [Int.tdiv_eq_ediv_of_nonneg (by omega)];omega
 have t1:n.tmod 10=(b:Int):=by rw [Int.tmod_eq_emod_of_nonneg (by omega)];omega
 have t2:n / 10=(a:Int):=by omega
 have t3:n % 10=(b:Int):=by omega
 have hcv:∀wr:World,(convert 115 9 (.slice (some ⟨wr.heap.size,0,none⟩) 1 1)).run Tryz.prog (wr.alloc (.cells #[.int .u8 (48+(b:Int))] 5))=.ok (.string ⟨#[UInt8.ofNat (48+b)]⟩) (wr.alloc (.cells #[.int .u8 (48+(b:Int))] 5)):=fun wr=>conv_dig wr b hb
 have HD:=Lib.hid (fun u:World=>rdig1_calls a ha.2 u)
 have q1:(0:Int)≤a:=by omega
 have q2:(a:Int)≤9:=by omega
 have q3:(0:Int)≤b:=by omega
 have q4:(b:Int)≤9:=by omega
 have hwa:IntKind.i64.wrap (a:Int)=a:=(show ∀x:_root_.Fin 10,IntKind.i64.wrap (x.val:Int)=x.val by decide) ⟨a,ha.2⟩
 have hwb:IntKind.i64.wrap (48+(b:Int))=48+b:=(show ∀x:_root_.Fin 10,IntKind.i64.wrap (48+(x.val:Int))=48+x.val by decide) ⟨b,hb⟩
 have hwc:IntKind.u8.wrap (48+(b:Int))=48+b:=(show ∀x:_root_.Fin 10,IntKind.u8.wrap (48+(x.val:Int))=48+x.val by decide) ⟨b,hb⟩
 clear hn
 have HCV:=Lib.hid hcv
 clear hcv
 go_enter Tryz.func136,Tryz.ntmps136
 go_wp2_with fail
 have h0:=HCV.out w.drew
 have h1:=conv_byte (w.alloc (.cells #[.int .u8 (48+(b:Int))] 5)).drew w.heap.size b hb (kAz (kAq w (.cells #[.int .u8 (48+(b:Int))] 5)) 0)
 go_region_with (
   go_at_call 136
   refine (HD.out _).mono ?_
   rintro e w2 ⟨rfl,hu5⟩
   have hcv2:=HCV.out w2
   try have hcv3:=conv_byte w2 w.heap.size b hb ((hu5.cell (p:=⟨w.heap.size,0,none⟩) (by simp) (by simp)).trans (kAz (kAq w (.cells #[.int .u8 (48+(b:Int))] 5)) 0))
   try have hcv4:=HCV.out w2.drew)
 all_goals (
  have hup:Upto [] w w2:=by first | exact (Upto.refl [] w).drew.trans_ext hu5 | exact (((Upto.refl [] w).alloc _).drew).trans_ext hu5 | exact ((Upto.refl [] w).alloc _).trans_ext hu5
  have HUP:=Lib.hid (hup.alloc (.cells #[.int .u8 (48+(b:Int))] 5))
  have HUQ:=Lib.hid hup
  clear hu5 hup
  go_wp2
  go_ret
  exact⟨congrArg (fun z=>Ending.returned (.string z)) (by rw [show UInt8.ofNat (48+a)=48+UInt8.ofNat a from by simp [UInt8.ofNat_add],show UInt8.ofNat (48+b)=48+UInt8.ofNat b from by simp [UInt8.ofNat_add]];exact ByteArray.mk_append_mk [_] [_]),by first | exact HUQ.out | exact HUP.out | exact HUQ.out.drew | exact HUP.out.drew⟩)
theorem rdigits_calls (n:Nat) (h:n≤64) (w:World):Calls Tryz.prog 136 #[.int .i64 (n:Int)] w fun e w'=>e=.returned (.string ⟨(digF 3 n).toArray⟩)∧Upto [] w w':=by
 by_cases h1:n<10
 ·have e:digF 3 n=[UInt8.ofNat (48+n)]:=by simp [digF,h1]
  rw [e]
  exact rdig1_calls n h1 w
 ·have e:digF 3 n=[UInt8.ofNat (48+n / 10),UInt8.ofNat (48+n % 10)]:=by
   have h2:n / 10<10:=by omega
   simp [digF,h1,h2]
  rw [e]
  exact rdig2_calls (n / 10) (n % 10) (by omega) (by omega) n (by omega) w
theorem ratom_true (so nn mm:Int) (b1:Option Addr) (b2 b3:Nat) (d1:Option Addr) (d2 d3:Nat) (w:World):Calls Tryz.prog 111 #[.agg #[.int .i64 0,.slice b1 b2 b3,.int .i64 so,.int .i64 nn,.int .i64 mm,.slice d1 d2 d3]] w fun e w'=>e=.returned (.string ⟨([116,114,117,101]:List UInt8).toArray⟩)∧Upto [] w w':=by
 have HU:Hid (Upto [] w (w.alloc (.cells #[.int .i64 0,.slice b1 b2 b3,.int .i64 so,.int .i64 nn,.int .i64 mm,.slice d1 d2 d3] 25))):=Lib.hid ((Upto.refl [] w).alloc _)
 have HWD:=Lib.hid (fun u=>word_calls 0 (by omega) u)
 go_enter Tryz.func111,Tryz.ntmps111
 go_wp2_with fail
 refine (HWD.out _).mono ?_
 rintro e w2 ⟨rfl,hu2⟩
 have HU2:=Lib.hid (HU.out.trans_ext hu2)
 clear hu2
 go_wp2_with fail
 go_ret
 exact⟨rfl,HU2.out⟩
theorem ratom_false (so nn mm:Int) (b1:Option Addr) (b2 b3:Nat) (d1:Option Addr) (d2 d3:Nat) (w:World):Calls Tryz.prog 111 #[.agg #[.int .i64 1,.slice b1 b2 b3,.int .i64 so,.int .i64 nn,.int .i64 mm,.slice d1 d2 d3]] w fun e w'=>e=.returned (.string ⟨([102,97,108,115,101]:List UInt8).toArray⟩)∧Upto [] w w':=by
 have HU:Hid (Upto [] w (w.alloc (.cells #[.int .i64 1,.slice b1 b2 b3,.int .i64 so,.int .i64 nn,.int .i64 mm,.slice d1 d2 d3] 25))):=Lib.hid ((Upto.refl [] w).alloc _)
 have HWD:=Lib.hid (fun u=>word_calls 1 (by omega) u)
 go_enter Tryz.func111,Tryz.ntmps111
 go_wp2_with fail
 refine (HWD.out _).mono ?_
 rintro e w2 ⟨rfl,hu2⟩
 have HU2:=Lib.hid (HU.out.trans_ext hu2)
 clear hu2
 go_wp2_with fail
 go_ret
 exact⟨rfl,HU2.out⟩
theorem ratom_one (so nn mm:Int) (g o b2 b3:Nat) (d1:Option Addr) (d2 d3:Nat) (x:List UInt8) (hlx:x.length≤1000000000) (w:World) (c1:w.cell? ⟨g,o,none⟩=some (.string ⟨x.toArray⟩)) (hb2:1≤b2):Calls Tryz.prog 111 #[.agg #[.int .i64 9,.slice (some ⟨g,o,none⟩) b2 b3,.int .i64 so,.int .i64 nn,.int .i64 mm,.slice d1 d2 d3]] w fun e w'=>e=.returned (.string ⟨([111,110,101,32]++x).toArray⟩)∧Upto [] w w':=by
 have hb2I:(0:Int)<b2:=by omega
 have s0:(ByteArray.mk x.toArray).size=x.length:=rfl
 have sm0:4+x.length≤9223372036854775807:=by omega
 have hu1:Upto [] w (w.alloc (.cells #[.int .i64 9,.slice (some ⟨g,o,none⟩) b2 b3,.int .i64 so,.int .i64 nn,.int .i64 mm,.slice d1 d2 d3] 25)):=(Upto.refl [] w).alloc _
 have HU:=Lib.hid hu1
 replace c1:=kAw hu1 c1
 have hb:=kAq w (.cells #[.int .i64 9,.slice (some ⟨g,o,none⟩) b2 b3,.int .i64 so,.int .i64 nn,.int .i64 mm,.slice d1 d2 d3] 25)
 obtain⟨y0,y1,y2,y3,y4,y5⟩:=kAx hb
 clear hu1 hb hb2 hlx
 go_enter Tryz.func111,Tryz.ntmps111
 go_wp2_with fail
 go_ret
 exact⟨congrArg (fun z=>Ending.returned (.string z)) (show ByteArray.mk [111,110,101,32].toArray++ByteArray.mk x.toArray=⟨([111,110,101,32]++x).toArray⟩ by simp only [ByteArray.mk_append_mk]),HU.out⟩
theorem ratom_is (so mm:Int) (q:Nat) (hq:q≤64) (g o b2 b3:Nat) (d1:Option Addr) (d2 d3:Nat) (x:List UInt8) (hlx:x.length≤1000000000) (w:World) (c1:w.cell? ⟨g,o,none⟩=some (.string ⟨x.toArray⟩)) (hb2:1≤b2):Calls Tryz.prog 111 #[.agg #[.int .i64 7,.slice (some ⟨g,o,none⟩) b2 b3,.int .i64 so,.int .i64 (q:Int),.int .i64 mm,.slice d1 d2 d3]] w fun e w'=>e=.returned (.string ⟨(x++[32,105,115,32]++digF 3 q).toArray⟩)∧Upto [] w w':=by
 have hb2I:(0:Int)<b2:=by omega
 have HD:=Lib.hid (fun u=>rdigits_calls q hq u)
 have hdl:=dig_len q (by omega)
 have hu1:Upto [] w (w.alloc (.cells #[.int .i64 7,.slice (some ⟨g,o,none⟩) b2 b3,.int .i64 so,.int .i64 (q:Int),.int .i64 mm,.slice d1 d2 d3] 25)):=(Upto.refl [] w).alloc _
 have HU:=Lib.hid hu1
 replace c1:=kAw hu1 c1
 have hb:=kAq w (.cells #[.int .i64 7,.slice (some ⟨g,o,none⟩) b2 b3,.int .i64 so,.int .i64 (q:Int),.int .i64 mm,.slice d1 d2 d3] 25)
 obtain⟨y0,y1,y2,y3,y4,y5⟩:=kAx hb
 have e0:=fun u:Ext (w.alloc (.cells #[.int .i64 7,.slice (some ⟨g,o,none⟩) b2 b3,.int .i64 so,.int .i64 (q:Int),.int .i64 mm,.slice d1 d2 d3] 25))=>u.cell y0
 have e1:=fun u:Ext (w.alloc (.cells #[.int .i64 7,.slice (some ⟨g,o,none⟩) b2 b3,.int .i64 so,.int .i64 (q:Int),.int .i64 mm,.slice d1 d2 d3] 25))=>u.cell y1
 have e3:=fun u:Ext (w.alloc (.cells #[.int .i64 7,.slice (some ⟨g,o,none⟩) b2 b3,.int .i64 so,.int .i64 (q:Int),.int .i64 mm,.slice d1 d2 d3] 25))=>u.cell y3
 have e4:=fun u:Ext (w.alloc (.cells #[.int .i64 7,.slice (some ⟨g,o,none⟩) b2 b3,.int .i64 so,.int .i64 (q:Int),.int .i64 mm,.slice d1 d2 d3] 25))=>u.cell y4
 have ex:=fun u:Ext (w.alloc (.cells #[.int .i64 7,.slice (some ⟨g,o,none⟩) b2 b3,.int .i64 so,.int .i64 (q:Int),.int .i64 mm,.slice d1 d2 d3] 25))=>u.cell c1
 generalize digF 3 q=D at *
 have s0:(ByteArray.mk x.toArray).size=x.length:=rfl
 have sm0:x.length+4≤9223372036854775807:=by omega
 have sm1:x.length+4+D.length≤9223372036854775807:=by omega
 clear hu1 hb hb2 hq hlx hdl
 go_enter Tryz.func111,Tryz.ntmps111
 go_wp2_with fail
 clear y0 y1 y2 y3 y4 y5 c1
 refine kFx [7] [] [0,1,2,3,4,5,6,7,8,9] (by kernel_rfl) (by kernel_rfl) ?_
 iterate 7 (refine kCq rfl rfl rfl rfl rfl ?_;intro K' hK';go_big_quiet_op;go_big_quiet_on)
 refine kMw rfl rfl rfl rfl (fun w=>by go_simp) (fun w' hu hd=>HD.out w') ?_
 simp only [Act.put,List.setIfInBounds_toArray,List.set_cons_zero,List.set_cons_succ]
 iterate 2 (refine kCq rfl rfl rfl rfl rfl ?_;intro K' hK';go_big_quiet_op;go_big_quiet_on)
 intro w9 hg
 have HW9:=Lib.hid (HU.out.trans_ext hg.up)
 clear hg e0 e1 e3 e4 ex
 go_wp2_with fail
 go_ret
 exact⟨congrArg (fun z=>Ending.returned (.string z)) (show ByteArray.mk x.toArray++ByteArray.mk [32,105,115,32].toArray++ByteArray.mk D.toArray=⟨(x++[32,105,115,32]++D).toArray⟩ by simp only [ByteArray.mk_append_mk]),HW9.out⟩
theorem ratom_size (so:Int) (q m:Nat) (hq:q≤64) (hm:m≤64) (g o b2 b3:Nat) (d1:Option Addr) (d2 d3:Nat) (x:List UInt8) (hlx:x.length≤1000000000) (w:World) (c1:w.cell? ⟨g,o,none⟩=some (.string ⟨x.toArray⟩)) (hb2:1≤b2):Calls Tryz.prog 111 #[.agg #[.int .i64 8,.slice (some ⟨g,o,none⟩) b2 b3,.int .i64 so,.int .i64 (q:Int),.int .i64 (m:Int),.slice d1 d2 d3]] w fun e w'=>e=.returned (.string ⟨([115,105,122,101,32]++x++[32,109,111,100,32]++digF 3 m++[32,105,115,32]++digF 3 q).toArray⟩)∧Upto [] w w':=by
 have hb2I:(0:Int)<b2:=by omega
 have HD:=Lib.hid (fun u=>rdigits_calls q hq u)
 have HE:=Lib.hid (fun u=>rdigits_calls m hm u)
 have hdl:=dig_len q (by omega)
 have hel:=dig_len m (by omega)
 have hu1:Upto [] w (w.alloc (.cells #[.int .i64 8,.slice (some ⟨g,o,none⟩) b2 b3,.int .i64 so,.int .i64 (q:Int),.int .i64 (m:Int),.slice d1 d2 d3] 25)):=(Upto.refl [] w).alloc _
 have HU:=Lib.hid hu1
 replace c1:=kAw hu1 c1
 have hb:=kAq w (.cells #[.int .i64 8,.slice (some ⟨g,o,none⟩) b2 b3,.int .i64 so,.int .i64 (q:Int),.int .i64 (m:Int),.slice d1 d2 d3] 25)
 obtain⟨y0,y1,y2,y3,y4,y5⟩:=kAx hb
 have e0:=fun u:Ext (w.alloc (.cells #[.int .i64 8,.slice (some ⟨g,o,none⟩) b2 b3,.int .i64 so,.int .i64 (q:Int),.int .i64 (m:Int),.slice d1 d2 d3] 25))=>u.cell y0
 have e1:=fun u:Ext (w.alloc (.cells #[.int .i64 8,.slice (some ⟨g,o,none⟩) b2 b3,.int .i64 so,.int .i64 (q:Int),.int .i64 (m:Int),.slice d1 d2 d3] 25))=>u.cell y1
 have e3:=fun u:Ext (w.alloc (.cells #[.int .i64 8,.slice (some ⟨g,o,none⟩) b2 b3,.int .i64 so,.int .i64 (q:Int),.int .i64 (m:Int),.slice d1 d2 d3] 25))=>u.cell y3
 have e4:=fun u:Ext (w.alloc (.cells #[.int .i64 8,.slice (some ⟨g,o,none⟩) b2 b3,.int .i64 so,.int .i64 (q:Int),.int .i64 (m:Int),.slice d1 d2 d3] 25))=>u.cell y4
 have ex:=fun u:Ext (w.alloc (.cells #[.int .i64 8,.slice (some ⟨g,o,none⟩) b2 b3,.int .i64 so,.int .i64 (q:Int),.int .i64 (m:Int),.slice d1 d2 d3] 25))=>u.cell c1
 generalize digF 3 q=D at *
 generalize digF 3 m=E at *
 have s0:(ByteArray.mk x.toArray).size=x.length:=rfl
 have sm0:5+x.length≤9223372036854775807:=by omega
 have sm1:5+x.length+5≤9223372036854775807:=by omega
 have sm2:5+x.length+5+E.length≤9223372036854775807:=by omega
 have sm3:5+x.length+5+E.length+4≤9223372036854775807:=by omega
 have sm4:5+x.length+5+E.length+4+D.length≤9223372036854775807:=by omega
 clear hu1 hb hb2 hq hm hlx hdl hel
 go_enter Tryz.func111,Tryz.ntmps111
 go_wp2_with fail
 clear y0 y1 y2 y3 y4 y5 c1
 refine kFx [8,13] [] [0,1,2,3,4,5,6,7,8,9,10,11,12,13,14,15] (by kernel_rfl) (by kernel_rfl) ?_
 iterate 8 (refine kCq rfl rfl rfl rfl rfl ?_;intro K' hK';go_big_quiet_op;go_big_quiet_on)
 refine kMw rfl rfl rfl rfl (fun w=>by go_simp) (fun w' hu hd=>HE.out w') ?_
 simp only [Act.put,List.setIfInBounds_toArray,List.set_cons_zero,List.set_cons_succ]
 iterate 4 (refine kCq rfl rfl rfl rfl rfl ?_;intro K' hK';go_big_quiet_op;go_big_quiet_on)
 refine kMw rfl rfl rfl rfl (fun w=>by go_simp) (fun w' hu hd=>HD.out w') ?_
 simp only [Act.put,List.setIfInBounds_toArray,List.set_cons_zero,List.set_cons_succ]
 iterate 2 (refine kCq rfl rfl rfl rfl rfl ?_;intro K' hK';go_big_quiet_op;go_big_quiet_on)
 intro w9 hg
 have HW9:=Lib.hid (HU.out.trans_ext hg.up)
 clear hg e0 e1 e3 e4 ex
 go_wp2_with fail
 go_ret
 exact⟨congrArg (fun z=>Ending.returned (.string z)) (show ByteArray.mk [115,105,122,101,32].toArray++ByteArray.mk x.toArray++ByteArray.mk [32,109,111,100,32].toArray++ByteArray.mk E.toArray++ByteArray.mk [32,105,115,32].toArray++ByteArray.mk D.toArray=⟨([115,105,122,101,32]++x++[32,109,111,100,32]++E++[32,105,115,32]++D).toArray⟩ by simp only [ByteArray.mk_append_mk]),HW9.out⟩
theorem ratom_two (so nn mm:Int) (k:Nat) (h2:2≤k) (h7:k<7) (g o b2 b3:Nat) (d1:Option Addr) (d2 d3:Nat) (x y:List UInt8) (hlx:x.length≤1000000000) (hly:y.length≤1000000000) (w:World) (c1:w.cell? ⟨g,o,none⟩=some (.string ⟨x.toArray⟩)) (c2:w.cell? ⟨g,o+1,none⟩=some (.string ⟨y.toArray⟩)) (hb2:2≤b2):Calls Tryz.prog 111 #[.agg #[.int .i64 (k:Int),.slice (some ⟨g,o,none⟩) b2 b3,.int .i64 so,.int .i64 nn,.int .i64 mm,.slice d1 d2 d3]] w fun e w'=>e=.returned (.string ⟨(x++[32]++wordsF.getD k []++[32]++y).toArray⟩)∧Upto [] w w':=by
 have hb2I:(0:Int)<b2:=by omega
 have hb2J:(1:Int)<b2:=by omega
 have hwl:=wordsF_len k
 have HWD:=Lib.hid (fun u=>word_calls k (by omega) u)
 rw [refW_word (by omega) (by omega)] at HWD
 obtain⟨W,hW⟩:∃W,W=wordsF.getD k []:=⟨_,rfl⟩
 rw [←hW] at hwl HWD ⊢
 clear hW
 have hu1:Upto [] w (w.alloc (.cells #[.int .i64 (k:Int),.slice (some ⟨g,o,none⟩) b2 b3,.int .i64 so,.int .i64 nn,.int .i64 mm,.slice d1 d2 d3] 25)):=(Upto.refl [] w).alloc _
 have HU:=Lib.hid hu1
 replace c1:=kAw hu1 c1
 have hb:=kAq w (.cells #[.int .i64 (k:Int),.slice (some ⟨g,o,none⟩) b2 b3,.int .i64 so,.int .i64 nn,.int .i64 mm,.slice d1 d2 d3] 25)
 obtain⟨y0,y1,y2,y3,y4,y5⟩:=kAx hb
 have e0:=fun u:Ext (w.alloc (.cells #[.int .i64 (k:Int),.slice (some ⟨g,o,none⟩) b2 b3,.int .i64 so,.int .i64 nn,.int .i64 mm,.slice d1 d2 d3] 25))=>u.cell y0
 have e1:=fun u:Ext (w.alloc (.cells #[.int .i64 (k:Int),.slice (some ⟨g,o,none⟩) b2 b3,.int .i64 so,.int .i64 nn,.int .i64 mm,.slice d1 d2 d3] 25))=>u.cell y1
 have e3:=fun u:Ext (w.alloc (.cells #[.int .i64 (k:Int),.slice (some ⟨g,o,none⟩) b2 b3,.int .i64 so,.int .i64 nn,.int .i64 mm,.slice d1 d2 d3] 25))=>u.cell y3
 have e4:=fun u:Ext (w.alloc (.cells #[.int .i64 (k:Int),.slice (some ⟨g,o,none⟩) b2 b3,.int .i64 so,.int .i64 nn,.int .i64 mm,.slice d1 d2 d3] 25))=>u.cell y4
 have ex:=fun u:Ext (w.alloc (.cells #[.int .i64 (k:Int),.slice (some ⟨g,o,none⟩) b2 b3,.int .i64 so,.int .i64 nn,.int .i64 mm,.slice d1 d2 d3] 25))=>u.cell c1
 replace c2:=kAw hu1 c2
 have ez:=fun u:Ext (w.alloc (.cells #[.int .i64 (k:Int),.slice (some ⟨g,o,none⟩) b2 b3,.int .i64 so,.int .i64 nn,.int .i64 mm,.slice d1 d2 d3] 25))=>u.cell c2
 have s0:(ByteArray.mk x.toArray).size=x.length:=rfl
 have s1:(ByteArray.mk y.toArray).size=y.length:=rfl
 have sm0:x.length+1≤9223372036854775807:=by omega
 have sm1:x.length+1+W.length≤9223372036854775807:=by omega
 have sm2:x.length+1+W.length+1≤9223372036854775807:=by omega
 have sm3:x.length+1+W.length+1+y.length≤9223372036854775807:=by omega
 have k0:((k:Int)==0)=false:=by rw [beq_eq_false_iff_ne];omega
 have k1:((k:Int)==1)=false:=by rw [beq_eq_false_iff_ne];omega
 have k7:((k:Int)==7)=false:=by rw [beq_eq_false_iff_ne];omega
 have k8:((k:Int)==8)=false:=by rw [beq_eq_false_iff_ne];omega
 have k9:((k:Int)==9)=false:=by rw [beq_eq_false_iff_ne];omega
 have k10:((k:Int)==10)=false:=by rw [beq_eq_false_iff_ne];omega
 clear hu1 hb hb2 h2 h7 hlx hly hwl
 go_enter Tryz.func111,Tryz.ntmps111
 go_wp2_with fail
 clear y0 y1 y2 y3 y4 y5 c1 c2 k0 k1 k7 k8 k9 k10
 refine kFx [7] [] [0,1,2,3,4,5,6,7,8,9,10,11,12,13,14,15] (by kernel_rfl) (by kernel_rfl) ?_
 iterate 7 (refine kCq rfl rfl rfl rfl rfl ?_;intro K' hK';go_big_quiet_op;go_big_quiet_on)
 refine kMw rfl rfl rfl rfl (fun w=>by go_simp) (fun w' hu hd=>HWD.out w') ?_
 simp only [Act.put,List.setIfInBounds_toArray,List.set_cons_zero,List.set_cons_succ]
 iterate 8 (refine kCq rfl rfl rfl rfl rfl ?_;intro K' hK';go_big_quiet_op;go_big_quiet_on)
 intro w9 hg
 have HW9:=Lib.hid (HU.out.trans_ext hg.up)
 clear hg e0 e1 e3 e4 ex ez
 go_wp2_with fail
 go_ret
 exact⟨congrArg (fun z=>Ending.returned (.string z)) (show ByteArray.mk x.toArray++ByteArray.mk [32].toArray++ByteArray.mk W.toArray++ByteArray.mk [32].toArray++ByteArray.mk y.toArray=⟨(x++[32]++W++[32]++y).toArray⟩ by simp only [ByteArray.mk_append_mk]),HW9.out⟩
theorem ratom_call (so nn mm:Int) (g o b3:Nat) (d1:Option Addr) (d2 d3:Nat) (f:List UInt8) (ys xs:List (List UInt8)) (hxs:xs=f::ys) (hxl:xs.length≤100) (hlx:∀x∈xs,x.length≤16) (w:World) (hx:∀i x,xs[i]?=some x→w.cell? ⟨g,o+i,none⟩=some (.string ⟨x.toArray⟩)):Calls Tryz.prog 111 #[.agg #[.int .i64 10,.slice (some ⟨g,o,none⟩) xs.length b3,.int .i64 so,.int .i64 nn,.int .i64 mm,.slice d1 d2 d3]] w fun e w'=>e=.returned (.string ⟨(f++[32,40]++argS ys++[32,41]).toArray⟩)∧Upto [] w w':=by
 have hu1:Upto [] w (w.alloc (.cells #[.int .i64 10,.slice (some ⟨g,o,none⟩) xs.length b3,.int .i64 so,.int .i64 nn,.int .i64 mm,.slice d1 d2 d3] 25)):=(Upto.refl [] w).alloc _
 have HU1:=Lib.hid hu1
 have hb:=kAq w (.cells #[.int .i64 10,.slice (some ⟨g,o,none⟩) xs.length b3,.int .i64 so,.int .i64 nn,.int .i64 mm,.slice d1 d2 d3] 25)
 have HB:=Lib.hid hb
 obtain⟨y0,y1⟩:=kKx hb
 have HX:=Lib.hid hx
 have HLX:=Lib.hid hlx
 have HXS:=Lib.hid hxs
 have hf:xs[0]?=some f:=by rw [hxs];rfl
 have c0:=hx 0 f hf
 rw [Nat.add_zero] at c0
 replace c0:=kAw hu1 c0
 have hfl:=hlx f (by rw [hxs];simp)
 have hn1:(1:Int)≤xs.length:=by rw [hxs];simp;omega
 have hn2:(xs.length:Int)≤100:=by omega
 have q0:(0:Int)<xs.length:=by omega
 have s0:(ByteArray.mk f.toArray).size=f.length:=rfl
 have sm0:f.length+2≤9223372036854775807:=by omega
 have HYL:Hid (∀j,(argS (ys.take j)).length≤2000):=Lib.hid (fun j=>by
  have h1:=argS_len (ys.take j) (fun x hx'=>hlx x (by rw [hxs];simp [List.mem_of_mem_take hx']))
  have h2:(ys.take j).length≤100:=by
   rw [List.length_take]
   have:ys.length+1=xs.length:=by rw [hxs];simp
   omega
  omega)
 clear hu1 hb hx hlx hxs hf
 go_enter Tryz.func111,Tryz.ntmps111
 go_wp2_with fail
 generalize hW:(w.alloc (.cells #[.int .i64 10,.slice (some ⟨g,o,none⟩) xs.length b3,.int .i64 so,.int .i64 nn,.int .i64 mm,.slice d1 d2 d3] 25))=W at *
 clear hW y0 y1
 go_loopw [3,4] (fun s i wr=>∃k:Nat,1≤k∧k≤xs.length∧s=.string ⟨(f++[32,40]++argS (ys.take (k-1))).toArray⟩∧i=.int .i64 k∧Hid (Upto [] W wr)) (fun _ i _=>xs.length-(intOf i).toNat)
 case atStart=>exact⟨1,by omega,by omega,by simp only [Nat.sub_self,List.take_zero,argS_nil,List.append_nil];exact congrArg Value.string (by rw [show ByteArray.mk #[32,40]=ByteArray.mk [32,40].toArray from rfl,ByteArray.mk_append_mk]),rfl,Lib.hid (Upto.refl _ _)⟩
 case round =>
  clear c0
  obtain⟨k,hk1,hk2,rfl,rfl,HU⟩:=hrel
  have hk0:(0:Int)≤k:=by omega
  have hb:=HU.out.at HB.out (by simp)
  have y1:=kAz hb 1
  simp only [List.getElem?_toArray,List.getElem?_cons_zero,List.getElem?_cons_succ] at y1
  have HW:=Lib.hid (HU1.out.trans_ext HU.out)
  have hcl:=HYL.out (k-1)
  rcases Nat.lt_or_ge k xs.length with hlt | hge
  ·have hltI:(k:Int)<xs.length:=by omega
   obtain⟨y,hy⟩:∃y,xs[k]?=some y:=⟨_,List.getElem?_eq_getElem hlt⟩
   have c1:=HX.out k y hy
   replace c1:=kAw HW.out c1
   have hyl:=HLX.out y (List.mem_of_getElem? hy)
   have HY:Hid (ys[k-1]?=some y):=Lib.hid (by
    rw [HXS.out] at hy
    obtain⟨q,rfl⟩:∃q,k=q+1:=⟨k-1,by omega⟩
    simpa using hy)
   have HTK:Hid (ys.take k=ys.take (k-1)++[y]):=Lib.hid (by
    obtain⟨q,rfl⟩:∃q,k=q+1:=⟨k-1,by omega⟩
    obtain⟨hi,h2⟩:=List.getElem?_eq_some_iff.1 HY.out
    simp only [Nat.add_sub_cancel] at hi h2 ⊢
    rw [List.take_succ_eq_append_getElem hi,h2])
   have s1:(ByteArray.mk y.toArray).size=y.length:=rfl
   by_cases hz:k=1
   ·subst hz
    have HCF:Hid (argS (ys.take 1)=[32]++y):=Lib.hid (by
     rw [HTK.out,argS_snoc]
     simp [argS,argT])
    have hE:f++[32,40]++argS (ys.take (1-1))=f++[32,40]:=by simp [argS,argT]
    rw [hE]
    clear hE
    have s2:(ByteArray.mk (f++[32,40]).toArray).size=f.length+2:=by show (f++[32,40]).toArray.size=_;simp
    have sm1:f.length+2+1≤9223372036854775807:=by omega
    have sm2:f.length+2+1+y.length≤9223372036854775807:=by omega
    have hc1:ByteArray.mk (f++[32,40]).toArray++ByteArray.mk #[32]=⟨(f++[32,40]++[32]).toArray⟩:=by
     show _++ByteArray.mk [32].toArray=_
     rw [ByteArray.mk_append_mk]
    have s3:(ByteArray.mk (f++[32,40]++[32]).toArray).size=f.length+2+1:=by show (f++[32,40]++[32]).toArray.size=_;simp
    clear hb hy
    go_wp2_with fail
    go_roundw
    case rel =>
     refine⟨2,by omega,by omega,?_,by go_num,HU⟩
     rw [show 2-1=1 from rfl,HCF.out]
     exact congrArg Value.string (by first | (rw [ByteArray.mk_append_mk];simp;done) | (rw [show ByteArray.mk #[32]=ByteArray.mk [32].toArray from rfl,ByteArray.mk_append_mk,ByteArray.mk_append_mk];simp))
    case measure=>simp [intOf];omega
   ·have hzJ:(1:Int)<(k:Int):=by omega
    have HCF:Hid (argS (ys.take k)=argS (ys.take (k-1))++[32,44]++[32]++y):=Lib.hid (by
     rw [HTK.out,argS_snoc,if_neg]
     ·simp
     intro h
     have hi:=(List.getElem?_eq_some_iff.1 HY.out).1
     have:=congrArg List.length h
     simp only [List.length_take,List.length_nil] at this
     omega)
    generalize argS (ys.take (k-1))=T at *
    have s2:(ByteArray.mk (f++[32,40]++T).toArray).size=f.length+2+T.length:=by show (f++[32,40]++T).toArray.size=_;simp;omega
    have hc1:ByteArray.mk (f++[32,40]++T).toArray++ByteArray.mk #[32,44]=⟨(f++[32,40]++T++[32,44]).toArray⟩:=by
     show _++ByteArray.mk [32,44].toArray=_
     rw [ByteArray.mk_append_mk]
    have s3:(ByteArray.mk (f++[32,40]++T++[32,44]).toArray).size=f.length+2+T.length+2:=by show (f++[32,40]++T++[32,44]).toArray.size=_;simp;omega
    have hc2:ByteArray.mk (f++[32,40]++T++[32,44]).toArray++ByteArray.mk #[32]=⟨(f++[32,40]++T++[32,44]++[32]).toArray⟩:=by
     show _++ByteArray.mk [32].toArray=_
     rw [ByteArray.mk_append_mk]
    have s4:(ByteArray.mk (f++[32,40]++T++[32,44]++[32]).toArray).size=f.length+2+T.length+2+1:=by show (f++[32,40]++T++[32,44]++[32]).toArray.size=_;simp;omega
    have sm1:f.length+2+T.length+2≤9223372036854775807:=by omega
    have sm2:f.length+2+T.length+2+1≤9223372036854775807:=by omega
    have sm3:f.length+2+T.length+2+1+y.length≤9223372036854775807:=by omega
    clear hb hy hz
    go_wp2_with fail
    go_roundw
    case rel =>
     refine⟨k+1,by omega,by omega,?_,by go_num,HU⟩
     rw [Nat.add_sub_cancel,HCF.out]
     exact congrArg Value.string (by first | (rw [ByteArray.mk_append_mk];simp;done) | (rw [show ByteArray.mk #[32,44]=ByteArray.mk [32,44].toArray from rfl,show ByteArray.mk #[32]=ByteArray.mk [32].toArray from rfl,ByteArray.mk_append_mk,ByteArray.mk_append_mk,ByteArray.mk_append_mk];simp))
    case measure=>simp [intOf];omega
  ·have hgeI:¬(k:Int)<xs.length:=by omega
   have HTA:Hid (ys.take (k-1)=ys):=Lib.hid (List.take_of_length_le (by
    have:ys.length+1=xs.length:=by rw [HXS.out];simp
    omega))
   rw [HTA.out] at hcl ⊢
   have s2:(ByteArray.mk (f++[32,40]++argS ys).toArray).size=f.length+2+(argS ys).length:=by show (f++[32,40]++argS ys).toArray.size=_;simp;omega
   have sm1:f.length+2+(argS ys).length+2≤9223372036854775807:=by omega
   clear hb
   go_wp2_with fail
   go_ret
   exact⟨congrArg (fun z=>Ending.returned (.string z)) (by rw [show ByteArray.mk #[32,41]=ByteArray.mk [32,41].toArray from rfl,ByteArray.mk_append_mk];simp),HW.out⟩
end Go.Proofs.YtkhbpebpljdifaaGreatDoor
