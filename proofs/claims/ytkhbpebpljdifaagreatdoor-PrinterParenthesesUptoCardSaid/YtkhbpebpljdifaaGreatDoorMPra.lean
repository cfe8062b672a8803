/- Merged texts. -/
import Derived.Lib.Join
import Derived.Test.YtkhbpebpljdifaaGreatDoorRows
import Derived.WalkKit
import Derived.WalkSpells
import Derived.WalkLawsBesides
import Derived.Maps.OwnSet
import Derived.Lib.Hide
import Derived.Laws.BytesArg
import Derived.Deep.QuietTactic
import Derived.BigQuiet
import Derived.Test.YtkhbpebpljdifaaGreatDoorProg
import Derived.Shelf.Small.Strs
import Derived.Shelf.LaysM
import Derived.Shelf.Strings.SplitShaped
import Derived.Deep.DeepCutAuto
import Derived.Deep.CutBlock
set_option maxRecDepth 100000
set_option maxHeartbeats 25600000
namespace Go.PL
structure Tok where
 kind:Nat
 text:List UInt8
 val:Nat
 line:Nat
 col:Nat
def kPq (b:UInt8):Bool:=(decide (97≤b.toNat)&&decide (b.toNat≤122))||(decide (65≤b.toNat)&&decide (b.toNat≤90))
def kHz (b:UInt8):Bool:=decide (48≤b.toNat)&&decide (b.toNat≤57)
def kDq (b:UInt8):Bool:=kPq b||kHz b||decide (b.toNat=39)
def kOx (b:UInt8):Bool:=decide (b.toNat=9)||decide (b.toNat=10)||decide (b.toNat=13)||decide (b.toNat=32)
def kXx (b:UInt8):Bool:=decide (b.toNat=61)||decide (b.toNat=40)||decide (b.toNat=41)||decide (b.toNat=44)||decide (b.toNat=58)||decide (b.toNat=59)
def kIw:List (List UInt8):=[[102,105,110,100],[115,111,109,101],[101,118,101,114,121],[118,101,114,116,101,120],[101,100,103,101],[115,101,116],[101,100,103,101,115],[116,114,117,101],[102,97,108,115,101],[110,111,116],[97,110,100],[111,114],[105,109,112,108,105,101,115],[105,102,102],[105,110],[115,117,98],[97,100,106],[111,110],[105,115],[111,110,101],[115,105,122,101],[109,111,100],[108,101,97,115,116],[103,114,101,97,116,101,115,116],[97,115,107],[108,101,116]]
def kQw (r:List UInt8):Nat:=r.foldl (fun n b=>10*n+(b.toNat-48)) 0
def kEw:List UInt8→Except Nat (Nat×Nat)
 | []=>.error 3
 | b::t =>
  if kHz b then
   if !((b::t).all kHz)||(decide (t≠[])&&decide (b.toNat=48)) then .error 3
   else if 2147483647<kQw (b::t) then .error 2 else .ok (2,kQw (b::t))
  else if !kPq b then .error 3
  else if kIw.contains (b::t) then .ok (3,0)
  else if 16<(b::t).length then .error 2
  else .ok (1,0)
def lexN:Nat→List UInt8→Nat→Nat→Except (Nat×Nat×Nat) (List Tok)
 | _,[],l,c=>.ok [⟨0,[],0,l,c⟩]
 | 0,_::_,l,c=>.error (l,c,3)
 | n+1,b::s,l,c =>
  if kOx b then (if b.toNat=10 then lexN n s (l+1) 1 else lexN n s l (c+1))
  else if kXx b then (lexN n s l (c+1)).map fun ts=>⟨4,[b],0,l,c⟩::ts
  else if kDq b then
   match kEw ((b::s).takeWhile kDq) with
   | .error e=>.error (l,c,e)
   | .ok (k,v)=>(lexN n ((b::s).dropWhile kDq) l (c+((b::s).takeWhile kDq).length)).map fun ts=>⟨k,(b::s).takeWhile kDq,v,l,c⟩::ts
  else .error (l,c,3)
theorem dropWhile_le {α:Type} (p:α→Bool) (s:List α):(s.dropWhile p).length≤s.length:=by
 induction s with
 | nil=>simp
 | cons b s ih =>
  simp only [List.dropWhile_cons]
  split
  ·simp;omega
  ·simp
theorem lexN_more:∀(n m:Nat) (s:List UInt8) (l c:Nat),s.length≤n→s.length≤m→lexN n s l c=lexN m s l c
 | n,m,[],l,c,_,_=>by cases n<;>cases m<;>rfl
 | 0,m,b::s,l,c,h,_=>by simp at h
 | n+1,0,b::s,l,c,_,h=>by simp at h
 | n+1,m+1,b::s,l,c,h,h'=>by
  have h1:s.length≤n:=by simpa using h
  have h2:s.length≤m:=by simpa using h'
  simp only [lexN]
  rw [lexN_more n m s (l+1) 1 h1 h2,lexN_more n m s l (c+1) h1 h2]
  split
  ·rfl
  ·split
   ·rfl
   ·split
    ·rename_i hi
     have h3:((b::s).dropWhile kDq)=s.dropWhile kDq:=by simp [hi]
     have h4:=dropWhile_le kDq s
     rw [h3,lexN_more n m (s.dropWhile kDq) l _ (by omega) (by omega)]
    ·rfl
def lexS (s:List UInt8) (l c:Nat):Except (Nat×Nat×Nat) (List Tok):=lexN s.length s l c
def lexT (s:List UInt8):Except (Nat×Nat×Nat) (List Tok):=if 65536<s.length then .error (0,0,2) else lexS s 1 1
theorem lexN_eq {n:Nat} {s:List UInt8} (h:s.length≤n) (l c:Nat):lexN n s l c=lexS s l c:=lexN_more n s.length s l c h (Nat.le_refl _)
theorem lexS_nil (l c:Nat):lexS [] l c=.ok [⟨0,[],0,l,c⟩]:=rfl
theorem lexS_line {b:UInt8} (h:b.toNat=10) (s:List UInt8) (l c:Nat):lexS (b::s) l c=lexS s (l+1) 1:=by
 have hb:kOx b=true:=by simp [kOx,h]
 show lexN (s.length+1) (b::s) l c=_
 simp only [lexN,hb,h,if_true]
 rfl
theorem lexS_blank {b:UInt8} (hb:kOx b=true) (h:b.toNat≠10) (s:List UInt8) (l c:Nat):lexS (b::s) l c=lexS s l (c+1):=by
 show lexN (s.length+1) (b::s) l c=_
 simp only [lexN,hb,h,if_true,if_false]
 rfl
theorem lexS_mark {b:UInt8} (hb:kOx b=false) (h:kXx b=true) (s:List UInt8) (l c:Nat):lexS (b::s) l c=(lexS s l (c+1)).map fun ts=>⟨4,[b],0,l,c⟩::ts:=by
 show lexN (s.length+1) (b::s) l c=_
 simp only [lexN,hb,h,if_true,Bool.false_eq_true,if_false]
 rfl
theorem lexS_run {b:UInt8} (hb:kOx b=false) (hm:kXx b=false) (h:kDq b=true) (s:List UInt8) (l c:Nat):lexS (b::s) l c =
  match kEw ((b::s).takeWhile kDq) with
  | .error e=>.error (l,c,e)
  | .ok (k,v)=>(lexS ((b::s).dropWhile kDq) l (c+((b::s).takeWhile kDq).length)).map fun ts=>⟨k,(b::s).takeWhile kDq,v,l,c⟩::ts:=by
 show lexN (s.length+1) (b::s) l c=_
 have h3:((b::s).dropWhile kDq)=s.dropWhile kDq:=by simp [h]
 have h4:=dropWhile_le kDq s
 simp only [lexN,hb,hm,h,if_true,Bool.false_eq_true,if_false]
 rw [h3,lexN_eq h4]
theorem lexS_bad {b:UInt8} (hb:kOx b=false) (hm:kXx b=false) (h:kDq b=false) (s:List UInt8) (l c:Nat):lexS (b::s) l c=.error (l,c,3):=by
 show lexN (s.length+1) (b::s) l c=_
 simp only [lexN,hb,hm,h,Bool.false_eq_true,if_false]
theorem inner_not {b:UInt8} (h:kDq b=true):kOx b=false∧kXx b=false:=by
 simp only [kDq,kPq,kHz,kOx,kXx,Bool.or_eq_true,Bool.and_eq_true,decide_eq_true_eq] at *
 constructor<;>simp<;>omega
theorem blank_not {b:UInt8} (h:kOx b=true):kDq b=false∧kXx b=false:=by
 simp only [kDq,kPq,kHz,kOx,kXx,Bool.or_eq_true,decide_eq_true_eq] at *
 constructor<;>simp<;>omega
theorem mark_not {b:UInt8} (h:kXx b=true):kDq b=false∧kOx b=false:=by
 simp only [kDq,kPq,kHz,kOx,kXx,Bool.or_eq_true,decide_eq_true_eq] at *
 constructor<;>simp<;>omega
def ahead (acc:List Tok) (r:Except (Nat×Nat×Nat) (List Tok)):Except (Nat×Nat×Nat) (List Tok):=r.map fun ts=>acc++ts
theorem ahead_nil (r:Except (Nat×Nat×Nat) (List Tok)):ahead [] r=r:=by cases r<;>rfl
theorem ahead_snoc (acc:List Tok) (t:Tok) (r:Except (Nat×Nat×Nat) (List Tok)):ahead acc (r.map fun ts=>t::ts)=ahead (acc++[t]) r:=by
 cases r with
 | error e=>rfl
 | ok ts=>simp [ahead,Except.map]
theorem ahead_ok (acc ts:List Tok):ahead acc (.ok ts)=.ok (acc++ts):=rfl
theorem ahead_error (acc:List Tok) (e:Nat×Nat×Nat):ahead acc (.error e)=.error e:=rfl
end Go.PL
namespace Go.Proofs.YtkhbpebpljdifaaGreatDoor
open Go.PL
inductive Nd where
 | mk (op:Int) (names:List (List UInt8)) (sort n m:Int) (l:List Nd)
def Nd.zero:Nd:=.mk 0 [] 0 0 0 []
structure PS where
 nx:Nat
 er:Nat
 dp:Nat
def tkAt (l:List Tok) (s:PS):Tok:=l.getD s.nx ⟨0,[],0,0,0⟩
def kCk (e:Nat) (s:PS):PS:=if s.er=0 then { s with er:=e } else s
def kBx (s:PS):PS:={ s with nx:=s.nx+1 }
def isF (l:List Tok) (x:List UInt8) (s:PS):Bool:=decide (s.er=0)&&(decide ((tkAt l s).kind=3)||decide ((tkAt l s).kind=4))&&decide ((tkAt l s).text=x)
def kDz (l:List Tok) (x:List UInt8) (s:PS):Bool×PS:=if isF l x s=true then (true,kBx s) else (false,s)
def kPj (l:List Tok) (x:List UInt8) (s:PS):PS:=if isF l x s=true then kBx s else kCk 3 s
def kAj (l:List Tok) (s:PS):List UInt8×PS :=
 let s1:=if (tkAt l s).kind=1 then s else kCk 3 s
 if s1.er=0 then ((tkAt l s).text,kBx s1) else ([],s1)
def kHq (l:List Tok) (least most:Int) (s:PS):Int×PS :=
 let t:=tkAt l s
 let s1:=if t.kind=2 then (if (t.val:Int)<least∨most<t.val then kCk 2 s else s) else kCk 3 s
 if s1.er=0 then (t.val,kBx s1) else (0,s1)
def kDj:List (List UInt8):=[[118,101,114,116,101,120],[101,100,103,101],[115,101,116],[101,100,103,101,115]]
def kPk (l:List Tok) (s:PS):List (List UInt8)→Nat→Option Nat
 | [],_=>none
 | x::xs,i=>if isF l x s=true then some i else kPk l s xs (i+1)
def kBz (l:List Tok) (s:PS):Int×PS:=match kPk l s kDj 0 with
 | some i=>(i,kBx s)
 | none=>(0,kCk 3 s)
abbrev Rd:=PS→Option (Nd×PS)
def levelP (of:Rd):Rd:=fun s =>
 let s1:=if s.dp=256 then kCk 16 s else s
 if s1.er=0 then (of { s1 with nx:=s1.nx+1,dp:=s1.dp+1 }).map fun (n,s2)=>(n,{ s2 with dp:=s2.dp-1 }) else some (.zero,s1)
def kIq (l:List Tok) (x:List UInt8) (op:Int) (of:Rd):Nat→Nd→Rd
 | 0,_,_=>none
 | k+1,n,s=>if isF l x s=true then (of (kBx s)).bind fun (m,s2)=>kIq l x op of k (.mk op [] 0 0 0 [n,m]) s2 else some (n,s)
def leftP (l:List Tok) (x:List UInt8) (op:Int) (of:Rd):Rd:=fun s=>(of s).bind fun (n,s1)=>kIq l x op of (l.length+1) n s1
def orsP (l:List Tok) (of:Rd):Rd:=leftP l [111,114] 13 (leftP l [97,110,100] 12 of)
def kJq (l:List Tok) (of:Rd):Nat→List Nd→PS→Option (List Nd×PS)
 | 0,_,_=>none
 | k+1,acc,s=>if isF l [105,109,112,108,105,101,115] s=true then (of (kBx s)).bind fun (m,s2)=>kJq l of k (acc++[m]) s2 else some (acc,s)
def kJz:List Nd→Nd
 | []=>.zero
 | [n]=>n
 | x::y::l=>.mk 14 [] 0 0 0 [x,kJz (y::l)]
def kMj (l:List Tok) (of:Rd):Rd:=fun s=>(orsP l of s).bind fun (n,s1)=>(kJq l (orsP l of) (l.length+1) [n] s1).map fun (a,s2)=>(kJz a,s2)
def kLx (l:List Tok) (of:Rd):Rd:=leftP l [105,102,102] 15 (kMj l of)
def bindP (l:List Tok) (op:Int) (fm:Rd):Rd:=levelP fun s =>
 let (q,s1):=kBz l s
 let (x,s2):=kAj l s1
 (fm (kPj l [58] s2)).map fun (n,s3)=>(.mk op [x] q 0 0 [n],s3)
def parenP (l:List Tok) (fm:Rd):Rd:=levelP fun s=>(fm s).map fun (n,s1)=>(n,kPj l [41] s1)
def notP (of:Rd):Rd:=levelP fun s=>(of s).map fun (n,s1)=>(.mk 11 [] 0 0 0 [n],s1)
def sizeP (l:List Tok) (s:PS):Nd×PS :=
 let (x,s1):=kAj l (kBx s)
 let (m,s2):=kHq l 1 64 (kPj l [109,111,100] s1)
 let (n,s3):=kHq l 0 (m-1) (kPj l [105,115] s2)
 (.mk 8 [x] 0 n m [],s3)
def oneP (l:List Tok) (s:PS):Nd×PS:=let (x,s1):=kAj l (kBx s);(.mk 9 [x] 0 0 0 [],s1)
def kJk (l:List Tok):Nat→List (List UInt8)→PS→Option (List (List UInt8)×PS)
 | 0,_,_=>none
 | k+1,xs,s =>
  if s.er=0 then
   if (tkAt l s).kind=1∧xs.length=17 then some (xs,kCk 8 s)
   else
    let (x,s1):=kAj l s
    if isF l [44] s1=true then kJk l k (xs++[x]) (kBx s1) else some (xs++[x],kPj l [41] s1)
  else some (xs,s)
def callP (l:List Tok) (f:List UInt8):Rd:=fun s =>
 let s1:=kBx s
 if isF l [41] s1=true then some (.mk 10 [f] 0 0 0 [],kBx s1) else (kJk l (l.length+1) [f] s1).map fun (xs,s2)=>(.mk 10 xs 0 0 0 [],s2)
def kQz:List (List UInt8):=[[61],[105,110],[115,117,98],[97,100,106],[111,110]]
def atomP (l:List Tok):Rd:=fun s =>
 let (a,s1):=kAj l s
 if isF l [40] s1=true then callP l a s1
 else if isF l [105,115] s1=true then let (n,s2):=kHq l 0 7 (kBx s1);some (.mk 7 [a] 0 n 0 [],s2)
 else match kPk l s1 kQz 0 with
  | some i=>let (b,s2):=kAj l (kBx s1);some (.mk (2+i) [a,b] 0 0 0 [],s2)
  | none=>some (.zero,kCk 3 s1)
def kCj (l:List Tok):Nat→Rd
 | 0,_=>none
 | d+1,s =>
  let t:=tkAt l s
  if (t.kind=3∨t.kind=4)∧s.er=0 then
   if t.text=[116,114,117,101] then some (.mk 0 [] 0 0 0 [],kBx s)
   else if t.text=[102,97,108,115,101] then some (.mk 1 [] 0 0 0 [],kBx s)
   else if t.text=[115,105,122,101] then some (sizeP l s)
   else if t.text=[111,110,101] then some (oneP l s)
   else if t.text=[110,111,116] then notP (kCj l d) s
   else if t.text=[115,111,109,101] then bindP l 16 (kLx l (kCj l d)) s
   else if t.text=[101,118,101,114,121] then bindP l 17 (kLx l (kCj l d)) s
   else if t.text=[40] then parenP l (kLx l (kCj l d)) s
   else atomP l s
  else atomP l s
mutual
def kCz:Nd→Nat
 | .mk _ _ _ _ _ l=>1+kBk l
def kBk:List Nd→Nat
 | []=>0
 | x::xs=>kCz x+kBk xs
end
mutual
def kNw:Nd→Nat
 | .mk _ _ _ _ _ l=>kLz l+1
def kLz:List Nd→Nat
 | []=>0
 | x::xs=>max (kNw x) (kLz xs)
end
theorem sizesF_append (a b:List Nd):kBk (a++b)=kBk a+kBk b:=by
 induction a with
 | nil=>simp [kBk]
 | cons x xs ih=>simp [kBk,ih,Nat.add_assoc]
theorem sizeF_zero:kCz .zero=1:=by simp [Nd.zero,kCz,kBk]
def Fin (l:List Tok):Prop:=∀i t,l[i]?=some t→t.kind≠0→i+1<l.length
structure Adv (l:List Tok) (s s':PS):Prop where
 le:s.nx≤s'.nx
 lt:s'.nx<l.length
 dp:s'.dp=s.dp
theorem tk_some {l:List Tok} {s:PS} (h:s.nx<l.length):l[s.nx]?=some (tkAt l s):=by
 unfold tkAt
 rw [List.getD_eq_getElem?_getD,List.getElem?_eq_getElem h]
 rfl
theorem Adv.refl {l:List Tok} {s:PS} (h:s.nx<l.length):Adv l s s:=⟨Nat.le_refl _,h,rfl⟩
theorem Adv.trans {l:List Tok} {a b c:PS} (h:Adv l a b) (k:Adv l b c):Adv l a c:=⟨Nat.le_trans h.le k.le,k.lt,k.dp.trans h.dp⟩
theorem kPw (k:Nat) (s:PS):(kCk k s).nx=s.nx:=by unfold kCk;split<;>rfl
theorem wrongF_dp (k:Nat) (s:PS):(kCk k s).dp=s.dp:=by unfold kCk;split<;>rfl
theorem kLk {k:Nat} (hk:k≠0) (s:PS):(kCk k s).er≠0:=by
 unfold kCk
 split
 ·exact hk
 ·assumption
theorem Adv.wrong {l:List Tok} {s:PS} (h:s.nx<l.length) (k:Nat):Adv l s (kCk k s):=⟨by rw [kPw];exact Nat.le_refl _,by rw [kPw];exact h,wrongF_dp _ _⟩
theorem isF_er {l:List Tok} {x:List UInt8} {s:PS} (h:isF l x s=true):s.er=0:=by
 unfold isF at h
 simp only [Bool.and_eq_true,decide_eq_true_eq] at h
 exact h.1.1
theorem kRx {l:List Tok} {x:List UInt8} {s:PS} (h:isF l x s=true):(tkAt l s).kind≠0:=by
 unfold isF at h
 simp only [Bool.and_eq_true,Bool.or_eq_true,decide_eq_true_eq] at h
 omega
theorem step_lt {l:List Tok} (hf:Fin l) {s:PS} (h:s.nx<l.length) (hk:(tkAt l s).kind≠0):(kBx s).nx<l.length:=hf _ _ (tk_some h) hk
theorem Adv.step {l:List Tok} (hf:Fin l) {s:PS} (h:s.nx<l.length) (hk:(tkAt l s).kind≠0):Adv l s (kBx s):=⟨Nat.le_succ _,step_lt hf h hk,rfl⟩
section
variable {l:List Tok} (hf:Fin l)
include hf
theorem kNq {x:List UInt8} {s:PS} (h:s.nx<l.length):Adv l s (kPj l x s):=by
 unfold kPj
 split
 ·exact Adv.step hf h (kRx (by assumption))
 ·exact Adv.wrong h 3
theorem kEq {s:PS} (h:s.nx<l.length):Adv l s (kAj l s).2∧((kAj l s).2.er=0→s.nx+1≤(kAj l s).2.nx):=by
 unfold kAj
 by_cases hk:(tkAt l s).kind=1
 ·simp only [if_pos hk]
  by_cases he:s.er=0
  ·simp only [if_pos he]
   exact⟨Adv.step hf h (by omega),fun _=>Nat.le_refl _⟩
  ·simp only [if_neg he]
   exact⟨Adv.refl h,fun h=>absurd h he⟩
 ·simp only [if_neg hk,if_neg (kLk (by decide:(3:Nat)≠0) s)]
  exact⟨Adv.wrong h 3,fun h=>absurd h (kLk (by decide) s)⟩
theorem numberP_adv {a z:Int} {s:PS} (h:s.nx<l.length):Adv l s (kHq l a z s).2:=by
 unfold kHq
 by_cases hk:(tkAt l s).kind=2
 ·simp only [if_pos hk]
  by_cases hr:((tkAt l s).val:Int)<a∨z<(tkAt l s).val
  ·simp only [if_pos hr,if_neg (kLk (by decide:(2:Nat)≠0) s)]
   exact Adv.wrong h 2
  ·simp only [if_neg hr]
   by_cases he:s.er=0
   ·simp only [if_pos he]
    exact Adv.step hf h (by omega)
   ·simp only [if_neg he]
    exact Adv.refl h
 ·simp only [if_neg hk,if_neg (kLk (by decide:(3:Nat)≠0) s)]
  exact Adv.wrong h 3
omit hf in
theorem firstF_is {s:PS}:∀(xs:List (List UInt8)) (i j:Nat),kPk l s xs i=some j→(tkAt l s).kind≠0
 | [],i,j,h=>by cases h
 | x::xs,i,j,h=>by
  unfold kPk at h
  split at h
  ·exact kRx (by assumption)
  ·exact firstF_is xs _ _ h
theorem kOz {s:PS} (h:s.nx<l.length):Adv l s (kBz l s).2:=by
 unfold kBz
 split
 ·exact Adv.step hf h (firstF_is _ _ _ (by assumption))
 ·exact Adv.wrong h 3
def RdOk (l:List Tok) (D:Nat) (of:Rd):Prop:=∀s:PS,s.dp=D→s.nx<l.length→∃n s',of s=some (n,s')∧Adv l s s'∧kCz n≤2*(s'.nx-s.nx)+1
theorem leftLoop_ok {D:Nat} {of:Rd} (ho:RdOk l D of) (x:List UInt8) (op:Int):∀(k:Nat) (n:Nd) (s:PS),s.dp=D→s.nx<l.length→l.length-s.nx<k →
  ∃n' s',kIq l x op of k n s=some (n',s')∧Adv l s s'∧kCz n'≤kCz n+2*(s'.nx-s.nx)
 | 0,n,s,_,_,h=>by omega
 | k+1,n,s,hd,hn,hk=>by
  unfold kIq
  by_cases hi:isF l x s=true
  ·rw [if_pos hi]
   have h1:=Adv.step hf hn (kRx hi)
   obtain⟨m,s2,e2,a2,z2⟩:=ho (kBx s) hd h1.lt
   have hle:=a2.le
   have hs:(kBx s).nx=s.nx+1:=rfl
   obtain⟨n',s',e3,a3,z3⟩:=leftLoop_ok ho x op k (.mk op [] 0 0 0 [n,m]) s2 (a2.dp.trans hd) a2.lt (by omega)
   refine⟨n',s',by rw [e2];exact e3,h1.trans (a2.trans a3),?_⟩
   have hle3:=a3.le
   simp only [kCz,kBk] at z3
   omega
  ·rw [if_neg hi]
   exact⟨n,s,rfl,Adv.refl hn,by omega⟩
theorem leftP_ok {D:Nat} {of:Rd} (ho:RdOk l D of) (x:List UInt8) (op:Int):RdOk l D (leftP l x op of):=by
 intro s hd hn
 obtain⟨n,s1,e1,a1,z1⟩:=ho s hd hn
 obtain⟨n',s',e2,a2,z2⟩:=leftLoop_ok hf ho x op (l.length+1) n s1 (a1.dp.trans hd) a1.lt (by omega)
 have:=a1.le
 have:=a2.le
 exact⟨n',s',by unfold leftP;rw [e1];exact e2,a1.trans a2,by omega⟩
theorem implLoop_ok {D:Nat} {of:Rd} (ho:RdOk l D of):∀(k:Nat) (acc:List Nd) (s:PS),acc≠[]→s.dp=D→s.nx<l.length→l.length-s.nx<k →
  ∃a s',kJq l of k acc s=some (a,s')∧a≠[]∧Adv l s s'∧kBk a+a.length≤kBk acc+acc.length+2*(s'.nx-s.nx)
 | 0,n,s,_,_,_,h=>by omega
 | k+1,acc,s,hne,hd,hn,hk=>by
  unfold kJq
  by_cases hi:isF l [105,109,112,108,105,101,115] s=true
  ·rw [if_pos hi]
   have h1:=Adv.step hf hn (kRx hi)
   obtain⟨m,s2,e2,a2,z2⟩:=ho (kBx s) hd h1.lt
   have hle:=a2.le
   have hs:(kBx s).nx=s.nx+1:=rfl
   obtain⟨n',s',e3,hne3,a3,z3⟩:=implLoop_ok ho k (acc++[m]) s2 (by simp) (a2.dp.trans hd) a2.lt (by omega)
   refine⟨n',s',by rw [e2];exact e3,hne3,h1.trans (a2.trans a3),?_⟩
   have hle3:=a3.le
   rw [sizesF_append] at z3
   simp only [kBk,List.length_append,List.length_cons,List.length_nil] at z3
   omega
  ·rw [if_neg hi]
   exact⟨acc,s,rfl,hne,Adv.refl hn,by omega⟩
omit hf in
theorem implFold_size:∀(a:List Nd),a≠[]→kCz (kJz a)+1≤kBk a+a.length
 | [],h=>absurd rfl h
 | [n],_=>by simp [kJz,kBk]
 | x::y::r,_=>by
  have:=implFold_size (y::r) (by simp)
  simp only [kJz,kCz,kBk,List.length_cons] at this ⊢
  omega
theorem impliesP_ok {D:Nat} {of:Rd} (ho:RdOk l D of):RdOk l D (kMj l of):=by
 have hor:RdOk l D (orsP l of):=leftP_ok hf (leftP_ok hf ho _ _) _ _
 intro s hd hn
 obtain⟨n,s1,e1,a1,z1⟩:=hor s hd hn
 obtain⟨a,s',e2,hne,a2,z2⟩:=implLoop_ok hf hor (l.length+1) [n] s1 (by simp) (a1.dp.trans hd) a1.lt (by omega)
 have:=a1.le
 have:=a2.le
 have:=implFold_size a hne
 simp only [kBk,List.length_cons,List.length_nil] at z2
 exact⟨kJz a,s',by unfold kMj;rw [e1];simp only [Option.bind_some];rw [e2];rfl,a1.trans a2,by omega⟩
theorem formulaP_ok {D:Nat} {of:Rd} (ho:RdOk l D of):RdOk l D (kLx l of):=leftP_ok hf (impliesP_ok hf ho) _ _
theorem levelP_ok {D:Nat} {of:Rd} {s:PS} (hd:s.dp=D) (hn:s.nx<l.length) (hk:(tkAt l s).kind≠0)
  (ho:D≠256→∀t:PS,t.dp=D+1→t.nx=s.nx+1→t.nx<l.length→∃n s',of t=some (n,s')∧Adv l t s'∧kCz n≤2*(s'.nx-t.nx)+3) :
  ∃n s',levelP of s=some (n,s')∧Adv l s s'∧kCz n≤2*(s'.nx-s.nx)+1:=by
 unfold levelP
 by_cases h6:s.dp=256
 ·simp only [if_pos h6,if_neg (kLk (by decide:(16:Nat)≠0) s)]
  exact⟨_,_,rfl,Adv.wrong hn 16,by rw [sizeF_zero];omega⟩
 ·simp only [if_neg h6]
  by_cases he:s.er=0
  ·simp only [if_pos he]
   obtain⟨n,s',e,a,z⟩:=ho (by rw [←hd];exact h6) ⟨s.nx+1,s.er,s.dp+1⟩ (by simp [hd]) rfl (step_lt hf hn hk)
   refine⟨n,⟨s'.nx,s'.er,s'.dp-1⟩,by rw [e];rfl,⟨?_,a.lt,?_⟩,?_⟩
   ·have:=a.le;simp at this ⊢;omega
   ·have:=a.dp;simp at this ⊢;omega
   ·have:=a.le;simp at this z ⊢;omega
  ·simp only [if_neg he]
   exact⟨_,_,rfl,Adv.refl hn,by rw [sizeF_zero];omega⟩
theorem callLoop_ok:∀(k:Nat) (xs:List (List UInt8)) (s:PS),s.nx<l.length→l.length-s.nx<k→∃ys s',kJk l k xs s=some (ys,s')∧Adv l s s'
 | 0,xs,s,_,h=>by omega
 | k+1,xs,s,hn,hk=>by
  unfold kJk
  by_cases he:s.er=0
  ·rw [if_pos he]
   by_cases h17:(tkAt l s).kind=1∧xs.length=17
   ·rw [if_pos h17]
    exact⟨_,_,rfl,Adv.wrong hn 8⟩
   ·rw [if_neg h17]
    obtain⟨a1,b1⟩:=kEq hf hn
    generalize kAj l s=r at a1 b1 ⊢
    obtain⟨x,s1⟩:=r
    simp only at a1 b1 ⊢
    by_cases hi:isF l [44] s1=true
    ·rw [if_pos hi]
     have h1:=Adv.step hf a1.lt (kRx hi)
     have h2:=b1 (isF_er hi)
     obtain⟨ys,s',e,a⟩:=callLoop_ok k (xs++[x]) (kBx s1) h1.lt (by have:(kBx s1).nx=s1.nx+1:=rfl;omega)
     exact⟨ys,s',e,a1.trans (h1.trans a)⟩
    ·rw [if_neg hi]
     exact⟨_,_,rfl,a1.trans (kNq hf a1.lt)⟩
  ·rw [if_neg he]
   exact⟨_,_,rfl,Adv.refl hn⟩
theorem atomP_ok (D:Nat):RdOk l D (atomP l):=by
 intro s hd hn
 unfold atomP
 obtain⟨a1,-⟩:=kEq hf hn
 generalize kAj l s=r at a1 ⊢
 obtain⟨x,s1⟩:=r
 simp only at a1 ⊢
 by_cases hp:isF l [40] s1=true
 ·rw [if_pos hp]
  have h1:=Adv.step hf a1.lt (kRx hp)
  unfold callP
  simp only
  by_cases hq:isF l [41] (kBx s1)=true
  ·rw [if_pos hq]
   exact⟨_,_,rfl,a1.trans (h1.trans (Adv.step hf h1.lt (kRx hq))),by simp [kCz,kBk]⟩
  ·rw [if_neg hq]
   obtain⟨ys,s',e,a⟩:=callLoop_ok hf (l.length+1) [x] (kBx s1) h1.lt (by omega)
   rw [e]
   exact⟨_,_,rfl,a1.trans (h1.trans a),by simp [kCz,kBk]⟩
 ·rw [if_neg hp]
  by_cases hq:isF l [105,115] s1=true
  ·rw [if_pos hq]
   have h1:=Adv.step hf a1.lt (kRx hq)
   exact⟨_,_,rfl,a1.trans (h1.trans (numberP_adv hf h1.lt)),by simp [kCz,kBk]⟩
  ·rw [if_neg hq]
   split
   ·rename_i i hi
    have h1:=Adv.step hf a1.lt (firstF_is _ _ _ hi)
    exact⟨_,_,rfl,a1.trans (h1.trans (kEq hf h1.lt).1),by simp [kCz,kBk]⟩
   ·exact⟨_,_,rfl,a1.trans (Adv.wrong a1.lt 3),by rw [sizeF_zero];omega⟩
theorem bindP_ok {D:Nat} {fm:Rd} {s:PS} (op:Int) (hd:s.dp=D) (hn:s.nx<l.length) (hk:(tkAt l s).kind≠0) (ho:D≠256→RdOk l (D+1) fm) :
  ∃n s',bindP l op fm s=some (n,s')∧Adv l s s'∧kCz n≤2*(s'.nx-s.nx)+1:=by
 unfold bindP
 refine levelP_ok hf hd hn hk fun h6 t ht _ htl=>?_
 have a1:=kOz hf htl
 generalize kBz l t=r1 at a1 ⊢
 obtain⟨q,s1⟩:=r1
 obtain⟨a2,-⟩:=kEq hf a1.lt
 simp only at a1 a2 ⊢
 generalize kAj l s1=r2 at a2 ⊢
 obtain⟨x,s2⟩:=r2
 simp only at a2 ⊢
 have a3:=kNq hf (x:=[58]) a2.lt
 obtain⟨n,s',e,a4,z⟩:=ho h6 (kPj l [58] s2) (a3.dp.trans (a2.dp.trans (a1.dp.trans ht))) a3.lt
 have h1:=a1.le
 have h2:=a2.le
 have h3:=a3.le
 have h4:=a4.le
 refine⟨_,_,by rw [e];rfl,a1.trans (a2.trans (a3.trans a4)),?_⟩
 simp only [kCz,kBk]
 omega
theorem operandP_ok:∀(d D:Nat),D≤256→257≤d+D→RdOk l D (kCj l d)
 | 0,D,h1,h2=>by omega
 | d+1,D,h1,h2=>by
  intro s hd hn
  have ih:D≠256→RdOk l (D+1) (kCj l d):=fun h=>operandP_ok d (D+1) (by omega) (by omega)
  unfold kCj
  simp only
  by_cases hk:((tkAt l s).kind=3∨(tkAt l s).kind=4)∧s.er=0
  ·rw [if_pos hk]
   have hk0:(tkAt l s).kind≠0:=by omega
   have h1:=Adv.step hf hn hk0
   have hs1:(kBx s).nx=s.nx+1:=rfl
   split
   ·exact⟨_,_,rfl,h1,by simp [kCz,kBk]⟩
   split
   ·exact⟨_,_,rfl,h1,by simp [kCz,kBk]⟩
   split
   ·unfold sizeP
    obtain⟨a1,-⟩:=kEq hf h1.lt
    generalize kAj l (kBx s)=r1 at a1 ⊢
    obtain⟨x,s1⟩:=r1
    simp only at a1 ⊢
    have a2:=kNq hf (x:=[109,111,100]) a1.lt
    have a3:=numberP_adv hf (a:=1) (z:=64) a2.lt
    generalize kHq l 1 64 (kPj l [109,111,100] s1)=r3 at a3 ⊢
    obtain⟨m,s3⟩:=r3
    simp only at a3 ⊢
    have a4:=kNq hf (x:=[105,115]) a3.lt
    have a5:=numberP_adv hf (a:=0) (z:=m-1) a4.lt
    exact⟨_,_,rfl,h1.trans (a1.trans (a2.trans (a3.trans (a4.trans a5)))),by simp [kCz,kBk]⟩
   split
   ·unfold oneP
    exact⟨_,_,rfl,h1.trans (kEq hf h1.lt).1,by simp [kCz,kBk]⟩
   split
   ·unfold notP
    refine levelP_ok hf hd hn hk0 fun h6 t ht _ htl=>?_
    obtain⟨n,s',e,a,z⟩:=ih h6 t ht htl
    exact⟨_,_,by rw [e];rfl,a,by simp only [kCz,kBk];omega⟩
   split
   ·exact bindP_ok hf 16 hd hn hk0 fun h6=>formulaP_ok hf (ih h6)
   split
   ·exact bindP_ok hf 17 hd hn hk0 fun h6=>formulaP_ok hf (ih h6)
   split
   ·unfold parenP
    refine levelP_ok hf hd hn hk0 fun h6 t ht _ htl=>?_
    obtain⟨n,s',e,a,z⟩:=formulaP_ok hf (ih h6) t ht htl
    have a2:=kNq hf (x:=[41]) a.lt
    exact⟨_,_,by rw [e];rfl,a.trans a2,by have:=a2.le;have:=a.le;omega⟩
   ·exact atomP_ok hf D s hd hn
  ·rw [if_neg hk]
   exact atomP_ok hf D s hd hn
end
def wholeP (l:List Tok):Rd:=kLx l (kCj l 257)
theorem wholeP_ok {l:List Tok} (hf:Fin l):RdOk l 0 (wholeP l):=formulaP_ok hf (operandP_ok hf 257 0 (by omega) (by omega))
def kNz (l:List Tok):Nat→List (List UInt8×Int)→PS→Option (List (List UInt8×Int)×PS)
 | 0,_,_=>none
 | k+1,out,s =>
  if s.er=0 then
   let (q,s1):=kBz l s
   let s2:=if (tkAt l s1).kind=1 then (if out.length=8 then kCk 8 s1 else if (out.any fun o=>decide (o.1=(tkAt l s1).text))=true then kCk 7 s1 else s1) else s1
   let (x,s3):=kAj l s2
   if isF l [44] s3=true then kNz l k (out++[(x,q)]) (kBx s3) else some (out++[(x,q)],kPj l [58] s3)
  else some (out,s)
def freeP (l:List Tok) (s:PS):Option (List (List UInt8×Int)×PS):=if isF l [102,105,110,100] s=true then kNz l (l.length+1) [] (kBx s) else some ([],s)
section
variable {l:List Tok} (hf:Fin l)
include hf
theorem freeLoop_ok:∀(k:Nat) (out:List (List UInt8×Int)) (s:PS),s.nx<l.length→l.length-s.nx<k→out.length≤8→∃r s',kNz l k out s=some (r,s')∧Adv l s s'∧r.length≤9
 | 0,out,s,_,h,_=>by omega
 | k+1,out,s,hn,hk,h8=>by
  unfold kNz
  by_cases he:s.er=0
  ·rw [if_pos he]
   have a1:=kOz hf hn
   generalize kBz l s=r1 at a1 ⊢
   obtain⟨q,s1⟩:=r1
   simp only at a1 ⊢
   have h2:∃s2,(if (tkAt l s1).kind=1 then (if out.length=8 then kCk 8 s1 else if (out.any fun o=>decide (o.1=(tkAt l s1).text))=true then kCk 7 s1 else s1) else s1)=s2∧Adv l s1 s2∧(out.length=8→(tkAt l s1).kind=1→s2.er≠0)∧(tkAt l s1).kind=(tkAt l s2).kind:=by
    refine⟨_,rfl,?_,?_,?_⟩
    ·repeat' split
     all_goals first | exact Adv.wrong a1.lt _ | exact Adv.refl a1.lt
    ·intro h8 h1
     rw [if_pos h1,if_pos h8]
     exact kLk (by decide) _
    ·unfold tkAt
     repeat' split
     all_goals first | rfl | rw [kPw]
   obtain⟨s2,e2,a2,b2,c2⟩:=h2
   rw [e2]
   obtain⟨a3,b3⟩:=kEq hf a2.lt
   have d3:(kAj l s2).2.er=0→(tkAt l s2).kind=1∧s2.er=0:=by
    unfold kAj
    by_cases h1:(tkAt l s2).kind=1
    ·simp only [if_pos h1]
     by_cases h0:s2.er=0
     ·simp only [if_pos h0];exact fun _=>⟨h1,h0⟩
     ·simp only [if_neg h0];exact fun h=>absurd h h0
    ·simp only [if_neg h1,if_neg (kLk (by decide:(3:Nat)≠0) s2)]
     exact fun h=>absurd h (kLk (by decide) s2)
   generalize kAj l s2=r3 at a3 b3 d3 ⊢
   obtain⟨x,s3⟩:=r3
   simp only at a3 b3 d3 ⊢
   by_cases hi:isF l [44] s3=true
   ·rw [if_pos hi]
    have h1:=Adv.step hf a3.lt (kRx hi)
    have h2:=b3 (isF_er hi)
    have h3:=d3 (isF_er hi)
    have h4:out.length≠8:=fun h=>b2 h (by rw [c2];exact h3.1) h3.2
    have:=a1.le
    have:=a2.le
    obtain⟨r,s',e,a,z⟩:=freeLoop_ok k (out++[(x,q)]) (kBx s3) h1.lt (by have:(kBx s3).nx=s3.nx+1:=rfl;omega) (by simp;omega)
    exact⟨r,s',e,a1.trans (a2.trans (a3.trans (h1.trans a))),z⟩
   ·rw [if_neg hi]
    exact⟨_,_,rfl,a1.trans (a2.trans (a3.trans (kNq hf a3.lt))),by simp;omega⟩
  ·rw [if_neg he]
   exact⟨_,_,rfl,Adv.refl hn,by omega⟩
theorem freeP_ok {s:PS} (hn:s.nx<l.length):∃r s',freeP l s=some (r,s')∧Adv l s s'∧r.length≤9:=by
 unfold freeP
 split
 ·have h1:=Adv.step hf hn (kRx (by assumption))
  obtain⟨r,s',e,a,z⟩:=freeLoop_ok hf (l.length+1) [] (kBx s) h1.lt (by omega) (by simp)
  exact⟨r,s',e,h1.trans a,z⟩
 ·exact⟨_,_,rfl,Adv.refl hn,by simp⟩
end
structure Qn where
 free:List (List UInt8×Int)
 body:Nd
def Qn.zero:Qn:=⟨[],.zero⟩
structure PR where
 q:Qn
 line:Nat
 col:Nat
 er:Nat
def kIz (n:Nd):Nat:=if 4096<kCz n then 8 else if 256<kNw n then 16 else 0
def endF (l:List Tok) (q:Qn) (s:PS):PR :=
 let s1:=if (tkAt l s).kind=0 then s else kCk 3 s
 if s1.er=0 then (if kIz q.body=0 then ⟨q,0,0,0⟩ else ⟨.zero,0,0,kIz q.body⟩) else ⟨.zero,(tkAt l s1).line,(tkAt l s1).col,s1.er⟩
def kFw (l:List Tok):Option (Qn×PS):=(freeP l ⟨0,0,0⟩).bind fun (f,s1)=>(wholeP l s1).map fun (n,s2)=>(⟨f,n⟩,s2)
def bareP (l:List Tok):Option (Qn×PS):=(wholeP l ⟨0,0,0⟩).map fun (n,s2)=>(⟨[],n⟩,s2)
theorem queryP_ok {l:List Tok} (hf:Fin l) (hn:0<l.length):∃q s',kFw l=some (q,s')∧Adv l ⟨0,0,0⟩ s'∧kCz q.body≤2*l.length+1∧q.free.length≤9:=by
 obtain⟨r,s1,e1,a1,z1⟩:=freeP_ok hf (s:=⟨0,0,0⟩) hn
 obtain⟨n,s2,e2,a2,z2⟩:=wholeP_ok hf s1 a1.dp a1.lt
 have:=a2.lt
 exact⟨⟨r,n⟩,s2,by unfold kFw;rw [e1];simp only [Option.bind_some];rw [e2];rfl,a1.trans a2,by simp only;omega,z1⟩
mutual
theorem kQj:∀n:Nd,kNw n≤kCz n
 | .mk _ _ _ _ _ l=>by have:=kKq l;simp only [kNw,kCz];omega
theorem kKq:∀l:List Nd,kLz l≤kBk l
 | []=>by simp [kLz]
 | x::xs=>by have:=kQj x;have:=kKq xs;simp only [kLz,kBk];omega
end
end Go.Proofs.YtkhbpebpljdifaaGreatDoor
namespace Go.PL
def Starts (s:List UInt8):Prop:=∀x t,s=x::t→kDq x=false
theorem Starts.nil:Starts []:=fun x t h=>by cases h
theorem Starts.cons {b:UInt8} (h:kDq b=false) (s:List UInt8):Starts (b::s):=fun x t e=>by cases e;exact h
theorem run_split {r s:List UInt8} (hr:∀x∈r,kDq x=true) (hs:Starts s):(r++s).takeWhile kDq=r∧(r++s).dropWhile kDq=s:=by
 induction r with
 | nil =>
  cases s with
  | nil=>exact⟨rfl,rfl⟩
  | cons x t=>simp [hs x t rfl]
 | cons b r ih =>
  have h1:=hr b (by simp)
  have h2:=ih (fun x hx=>hr x (by simp [hx]))
  simp [h1,h2]
theorem lexS_runs {r s:List UInt8} (hn:r≠[]) (hr:∀x∈r,kDq x=true) (hs:Starts s) (l c:Nat):lexS (r++s) l c =
  match kEw r with
  | .error e=>.error (l,c,e)
  | .ok (k,v)=>(lexS s l (c+r.length)).map fun ts=>⟨k,r,v,l,c⟩::ts:=by
 cases r with
 | nil=>exact absurd rfl hn
 | cons b r =>
  have h1:=hr b (by simp)
  obtain⟨h2,h3⟩:=run_split hr hs
  have h4:=inner_not h1
  have h5:=lexS_run h4.1 h4.2 h1 (r++s) l c
  rw [←List.cons_append,h2,h3] at h5
  exact h5
theorem lex_split (s:List UInt8) (h:∃b t,s=b::t∧kDq b=true):∃r q,s=r++q∧r≠[]∧(∀x∈r,kDq x=true)∧Starts q∧q.length<s.length:=by
 obtain⟨b,t,rfl,hb⟩:=h
 refine⟨(b::t).takeWhile kDq,(b::t).dropWhile kDq,(List.takeWhile_append_dropWhile).symm,by simp [hb],fun x hx=>?_,?_,?_⟩
 ·have:=List.all_takeWhile (p:=kDq) (l:=b::t)
  exact List.all_eq_true.1 this x hx
 ·intro x q hq
  have h1:=List.head?_dropWhile_not (p:=kDq) (b::t)
  rw [hq] at h1
  simpa using h1
 ·have:=dropWhile_le kDq t
  simp [hb]
  omega
theorem lex_ind {M:List UInt8→Nat→Nat→Except (Nat×Nat×Nat) (List Tok)→Prop}
  (nil:∀l c,M [] l c (.ok [⟨0,[],0,l,c⟩]))
  (line:∀b s l c,b.toNat=10→kOx b=true→M s (l+1) 1 (lexS s (l+1) 1)→M (b::s) l c (lexS s (l+1) 1))
  (blank:∀b s l c,kOx b=true→b.toNat≠10→M s l (c+1) (lexS s l (c+1))→M (b::s) l c (lexS s l (c+1)))
  (mark:∀b s l c,kXx b=true→M s l (c+1) (lexS s l (c+1))→M (b::s) l c ((lexS s l (c+1)).map fun ts=>⟨4,[b],0,l,c⟩::ts))
  (run:∀r s l c k v,r≠[]→(∀x∈r,kDq x=true)→Starts s→kEw r=.ok (k,v)→M s l (c+r.length) (lexS s l (c+r.length))→M (r++s) l c ((lexS s l (c+r.length)).map fun ts=>⟨k,r,v,l,c⟩::ts))
  (badrun:∀r s l c e,r≠[]→(∀x∈r,kDq x=true)→Starts s→kEw r=.error e→M (r++s) l c (.error (l,c,e)))
  (bad:∀b s l c,kOx b=false→kXx b=false→kDq b=false→M (b::s) l c (.error (l,c,3))) :
  ∀(n:Nat) (s:List UInt8),s.length≤n→∀l c,M s l c (lexS s l c)
 | _,[],_,l,c=>nil l c
 | 0,b::s,h,l,c=>by simp at h
 | n+1,b::s,h,l,c=>by
  have hl:s.length≤n:=by simpa using h
  have ih:=lex_ind nil line blank mark run badrun bad n
  cases hb:kOx b with
  | true =>
   by_cases h10:b.toNat=10
   ·rw [lexS_line h10]
    exact line b s l c h10 hb (ih s hl _ _)
   ·rw [lexS_blank hb h10]
    exact blank b s l c hb h10 (ih s hl _ _)
  | false =>
   cases hm:kXx b with
   | true =>
    rw [lexS_mark hb hm]
    exact mark b s l c hm (ih s hl _ _)
   | false =>
    cases hi:kDq b with
    | false =>
     rw [lexS_bad hb hm hi]
     exact bad b s l c hb hm hi
    | true =>
     obtain⟨r,q,e,hn,hr,hq,hlt⟩:=lex_split (b::s) ⟨b,s,rfl,hi⟩
     rw [e,lexS_runs hn hr hq]
     cases hc:kEw r with
     | error x=>exact badrun r q l c x hn hr hq hc
     | ok kv =>
      obtain⟨k,v⟩:=kv
      exact run r q l c k v hn hr hq hc (ih q (by simp at hlt h;omega) _ _)
def Real (k:Nat) (r:List UInt8) (v:Nat):Prop:=(∃b,r=[b]∧kXx b=true∧k=4∧v=0)∨(r≠[]∧(∀x∈r,kDq x=true)∧kEw r=.ok (k,v))
theorem Real.ne {k v:Nat} {r:List UInt8} (h:Real k r v):r≠[]:=by
 rcases h with⟨b,rfl,_⟩ | ⟨h,_⟩
 ·simp
 ·exact h
theorem classify_kind {r:List UInt8} {k v:Nat} (h:kEw r=.ok (k,v)):k=1∨k=2∨k=3:=by
 cases r with
 | nil=>cases h
 | cons b t =>
  simp only [kEw] at h
  split at h
  ·split at h
   ·cases h
   ·split at h
    ·cases h
    ·cases h;simp
  ·split at h
   ·cases h
   ·split at h
    ·cases h;simp
    ·split at h
     ·cases h
     ·cases h;simp
theorem Real.kind {k v:Nat} {r:List UInt8} (h:Real k r v):k=1∨k=2∨k=3∨k=4:=by
 rcases h with⟨b,_,_,rfl,_⟩ | ⟨_,_,h⟩
 ·simp
 ·rcases classify_kind h with h | h | h<;>simp [h]
theorem lexS_tok {k v:Nat} {r s:List UInt8} (h:Real k r v) (hs:Starts s) (l c:Nat):lexS (r++s) l c=(lexS s l (c+r.length)).map fun ts=>⟨k,r,v,l,c⟩::ts:=by
 rcases h with⟨b,rfl,hm,rfl,rfl⟩ | ⟨hn,hr,hc⟩
 ·exact lexS_mark (mark_not hm).2 hm s l c
 ·rw [lexS_runs hn hr hs,hc]
theorem lexS_real (s:List UInt8) (l c:Nat) (ts:List Tok) (h:lexS s l c=.ok ts):∃ts' l' c',ts=ts'++[⟨0,[],0,l',c'⟩]∧(∀t∈ts',Real t.kind t.text t.val)∧(ts'.map fun t=>t.text.length).sum≤s.length∧ts'.length≤s.length:=by
 refine lex_ind (M:=fun s l c R=>∀ts,R=.ok ts→∃ts' l' c',ts=ts'++[⟨0,[],0,l',c'⟩]∧(∀t∈ts',Real t.kind t.text t.val)∧(ts'.map fun t=>t.text.length).sum≤s.length∧ts'.length≤s.length) ?_ ?_ ?_ ?_ ?_ ?_ ?_ s.length s (Nat.le_refl _) l c ts h
 ·intro l c ts h
  cases h
  exact⟨[],l,c,rfl,by simp,by simp,by simp⟩
 ·intro x s l c h hb ih ts he
  obtain⟨ts',l',c',h1,h2,h3,h4⟩:=ih ts he
  exact⟨ts',l',c',h1,h2,by simp;omega,by simp;omega⟩
 ·intro x s l c hb h ih ts he
  obtain⟨ts',l',c',h1,h2,h3,h4⟩:=ih ts he
  exact⟨ts',l',c',h1,h2,by simp;omega,by simp;omega⟩
 ·intro x s l c hm ih ts he
  generalize lexS s l (c+1)=R at ih he
  cases R with
  | error e=>cases he
  | ok us =>
   cases he
   obtain⟨ts',l',c',rfl,h2,h3,h4⟩:=ih _ rfl
   refine⟨⟨4,[x],0,l,c⟩::ts',l',c',rfl,?_,?_,?_⟩
   ·intro t ht
    rcases List.mem_cons.1 ht with rfl | ht
    ·exact Or.inl ⟨x,rfl,hm,rfl,rfl⟩
    ·exact h2 t ht
   ·simp;omega
   ·simp;omega
 ·intro r s l c k v hn hr hs hc ih ts he
  generalize lexS s l (c+r.length)=R at ih he
  cases R with
  | error e=>cases he
  | ok us =>
   cases he
   obtain⟨ts',l',c',rfl,h2,h3,h4⟩:=ih _ rfl
   have hl:0<r.length:=List.length_pos_iff.2 hn
   refine⟨⟨k,r,v,l,c⟩::ts',l',c',rfl,?_,?_,?_⟩
   ·intro t ht
    rcases List.mem_cons.1 ht with rfl | ht
    ·exact Or.inr ⟨hn,hr,hc⟩
    ·exact h2 t ht
   ·simp;omega
   ·simp;omega
 ·intro r s l c e hn hr hs hc ts he
  cases he
 ·intro x s l c hb hm hi ts he
  cases he
theorem lexS_ws:∀(ws s:List UInt8) (l c:Nat),(∀x∈ws,kOx x=true)→∃l' c',lexS (ws++s) l c=lexS s l' c'
 | [],s,l,c,_=>⟨l,c,rfl⟩
 | b::ws,s,l,c,h=>by
  have hb:=h b (by simp)
  have hw:∀x∈ws,kOx x=true:=fun x hx=>h x (by simp [hx])
  rw [List.cons_append]
  by_cases h10:b.toNat=10
  ·rw [lexS_line h10];exact lexS_ws ws s _ _ hw
  ·rw [lexS_blank hb h10];exact lexS_ws ws s _ _ hw
theorem Starts.ws {ws s:List UInt8} (h:∀x∈ws,kOx x=true) (hs:ws=[]→Starts s):Starts (ws++s):=by
 cases ws with
 | nil=>exact hs rfl
 | cons b ws=>exact .cons (blank_not (h b (by simp))).1 _
def Tok.key (t:Tok):Nat×List UInt8×Nat:=(t.kind,t.text,t.val)
def oneF (s:List UInt8):Option (Nat×Nat) :=
 match lexT s with
 | .ok [t,_]=>if t.text=s then some (t.kind,t.val) else none
 | _=>none
theorem oneF_real {s:List UInt8} {k v:Nat}:oneF s=some (k,v)↔s.length≤65536∧Real k s v:=by
 constructor
 ·intro h
  unfold oneF lexT at h
  by_cases hl:65536<s.length
  ·rw [if_pos hl] at h;cases h
  ·rw [if_neg hl] at h
   refine⟨by omega,?_⟩
   split at h
   ·rename_i t t2 he
    obtain⟨ts',l',c',h1,h2,h3,h4⟩:=lexS_real s 1 1 _ he
    split at h
    ·rename_i hts
     cases h
     have h5:ts'=[t]:=by
      cases ts' with
      | nil=>simp at h1
      | cons a ts' =>
       simp at h1
       obtain⟨rfl,h1⟩:=h1
       cases ts' with
       | nil=>rfl
       | cons b ts'=>simp at h1
     subst h5
     have:=h2 t (by simp)
     rwa [hts] at this
    ·cases h
   ·cases h
 ·rintro⟨hl,hr⟩
  unfold oneF lexT
  rw [if_neg (by omega)]
  have h1:=lexS_tok hr Starts.nil 1 1
  rw [List.append_nil,lexS_nil] at h1
  rw [h1]
  simp [Except.map]
end Go.PL
namespace Go.Proofs.YtkhbpebpljdifaaGreatDoor
open Go.PL
def Alike (l k:List Tok):Prop:=l.map Tok.key=k.map Tok.key
section
variable {l k:List Tok} (h:Alike l k)
include h
theorem al_len:l.length=k.length:=by simpa using congrArg List.length h
theorem al_key (s:PS):(tkAt l s).key=(tkAt k s).key:=by
 have:=congrArg (fun x=>x[s.nx]?) h
 simp only [List.getElem?_map] at this
 unfold tkAt
 rw [List.getD_eq_getElem?_getD,List.getD_eq_getElem?_getD]
 cases hl:l[s.nx]?<;>cases hk:k[s.nx]?<;>rw [hl,hk] at this<;>simp at this ⊢
 exact this
theorem al_kind (s:PS):(tkAt l s).kind=(tkAt k s).kind:=congrArg Prod.fst (al_key h s)
theorem al_text (s:PS):(tkAt l s).text=(tkAt k s).text:=congrArg (fun p=>p.2.1) (al_key h s)
theorem al_val (s:PS):(tkAt l s).val=(tkAt k s).val:=congrArg (fun p=>p.2.2) (al_key h s)
theorem al_is:isF l=isF k:=by funext x s;unfold isF;rw [al_kind h,al_text h]
theorem al_need:kPj l=kPj k:=by funext x s;unfold kPj;rw [al_is h]
theorem al_ident:kAj l=kAj k:=by funext s;unfold kAj;rw [al_kind h,al_text h]
theorem al_number:kHq l=kHq k:=by funext a z s;unfold kHq;simp only [al_kind h,al_val h]
theorem al_first (s:PS):∀(xs:List (List UInt8)) (i:Nat),kPk l s xs i=kPk k s xs i
 | [],_=>rfl
 | x::xs,i=>by unfold kPk;rw [al_is h,al_first s xs]
theorem al_sort:kBz l=kBz k:=by funext s;unfold kBz;rw [al_first h]
theorem al_leftLoop (x:List UInt8) (op:Int) (of:Rd):∀n:Nat,kIq l x op of n=kIq k x op of n
 | 0=>rfl
 | n+1=>by funext m s;unfold kIq;rw [al_is h,al_leftLoop x op of n]
theorem al_left (x:List UInt8) (op:Int) (of:Rd):leftP l x op of=leftP k x op of:=by funext s;unfold leftP;rw [al_leftLoop h,al_len h]
theorem al_ors (of:Rd):orsP l of=orsP k of:=by unfold orsP;rw [al_left h,al_left h]
theorem al_implLoop (of:Rd):∀n:Nat,kJq l of n=kJq k of n
 | 0=>rfl
 | n+1=>by funext m s;unfold kJq;rw [al_is h,al_implLoop of n]
theorem al_implies (of:Rd):kMj l of=kMj k of:=by funext s;unfold kMj;rw [al_ors h,al_implLoop h,al_len h]
theorem al_formula (of:Rd):kLx l of=kLx k of:=by unfold kLx;rw [al_implies h,al_left h]
theorem al_bind (op:Int) (fm:Rd):bindP l op fm=bindP k op fm:=by unfold bindP;rw [al_sort h,al_ident h,al_need h]
theorem al_paren (fm:Rd):parenP l fm=parenP k fm:=by unfold parenP;rw [al_need h]
theorem al_size:sizeP l=sizeP k:=by funext s;unfold sizeP;rw [al_ident h,al_need h,al_number h]
theorem al_one:oneP l=oneP k:=by funext s;unfold oneP;rw [al_ident h]
theorem al_callLoop:∀n:Nat,kJk l n=kJk k n
 | 0=>rfl
 | n+1=>by funext xs s;unfold kJk;rw [al_kind h,al_ident h,al_is h,al_need h,al_callLoop n]
theorem al_call (f:List UInt8):callP l f=callP k f:=by funext s;unfold callP;rw [al_is h,al_callLoop h,al_len h]
theorem al_atom:atomP l=atomP k:=by
 funext s
 unfold atomP
 simp only [al_ident h,al_is h,al_number h,al_first h,al_call h]
theorem al_operand:∀d:Nat,kCj l d=kCj k d
 | 0=>rfl
 | d+1=>by
  funext s
  unfold kCj
  simp only [al_kind h,al_text h,al_size h,al_one h,al_bind h,al_paren h,al_formula h,al_atom h,al_operand d]
theorem al_whole:wholeP l=wholeP k:=by unfold wholeP;rw [al_formula h,al_operand h]
theorem al_freeLoop:∀n:Nat,kNz l n=kNz k n
 | 0=>rfl
 | n+1=>by funext xs s;unfold kNz;simp only [al_kind h,al_text h,al_ident h,al_sort h,al_is h,al_need h,al_freeLoop n]
theorem al_free:freeP l=freeP k:=by funext s;unfold freeP;rw [al_is h,al_freeLoop h,al_len h]
theorem al_query:kFw l=kFw k:=by unfold kFw;rw [al_free h,al_whole h]
theorem al_bare:bareP l=bareP k:=by unfold bareP;rw [al_whole h]
end
end Go.Proofs.YtkhbpebpljdifaaGreatDoor
namespace Go.Proofs.YtkhbpebpljdifaaGreatDoor
open Go.PL
def kFj (of:Rd) (D i j:Nat) (n:Nd):Prop:=of ⟨i,0,D⟩=some (n,⟨j,0,D⟩)
def opWd:Nat→List UInt8
 | 0=>[97,110,100]
 | 1=>[111,114]
 | 2=>[105,109,112,108,105,101,115]
 | _=>[105,102,102]
def SepD (l:List Tok) (j e:Nat):Prop:=∀c,c<4→isF l (opWd c) ⟨j,0,0⟩=decide (c=e)
section
variable {l:List Tok} {D i i1 j:Nat} {of:Rd} {x:List UInt8} {op:Int} {n a b:Nd}
theorem isF_dp (x:List UInt8) (j D:Nat):isF l x ⟨j,0,D⟩=isF l x ⟨j,0,0⟩:=rfl
theorem leftP_none (hr:kFj of D i j n) (h:isF l x ⟨j,0,0⟩=false):kFj (leftP l x op of) D i j n:=by
 unfold kFj leftP
 rw [show of ⟨i,0,D⟩=_ from hr,Option.bind_some]
 simp only [kIq]
 rw [isF_dp,h]
 rfl
theorem impl_none (hr:kFj (orsP l of) D i j n) (h:isF l [105,109,112,108,105,101,115] ⟨j,0,0⟩=false):kFj (kMj l of) D i j n:=by
 unfold kFj kMj
 rw [show orsP l of ⟨i,0,D⟩=_ from hr,Option.bind_some]
 simp only [kJq]
 rw [isF_dp,h]
 rfl
theorem levelP_reads (hD:D<256) (hr:kFj of (D+1) (i+1) j n):kFj (levelP of) D i j n:=by
 unfold kFj levelP
 have h1:¬D=256:=by omega
 simp only [if_neg h1,if_true]
 rw [show of ⟨i+1,0,D+1⟩=_ from hr]
 rfl
theorem kTj {i:Nat} {t:Tok} (h:l[i]?=some t) (e d:Nat):tkAt l ⟨i,e,d⟩=t:=by
 unfold tkAt
 rw [List.getD_eq_getElem?_getD,h]
 rfl
theorem kEk {i:Nat} {t:Tok} {ts:List Tok} (h:l.drop i=t::ts):l[i]?=some t∧l.drop (i+1)=ts:=by
 have h1:=congrArg (fun x=>x[0]?) h
 simp only [List.getElem?_drop,List.getElem?_cons_zero,Nat.add_zero] at h1
 have h2:=congrArg (List.drop 1) h
 rw [List.drop_drop] at h2
 exact⟨h1,by simpa using h2⟩
def idT (x:List UInt8):Tok:=⟨1,x,0,0,0⟩
def kyT (x:List UInt8):Tok:=⟨3,x,0,0,0⟩
def puT (c:UInt8):Tok:=⟨4,[c],0,0,0⟩
def digF:Nat→Nat→List UInt8
 | 0,n=>[UInt8.ofNat (48+n)]
 | f+1,n=>if n<10 then [UInt8.ofNat (48+n)] else digF f (n / 10)++[UInt8.ofNat (48+n % 10)]
def nmT (n:Int):Tok:=⟨2,digF 3 n.toNat,n.toNat,0,0⟩
theorem sep_end {t:Tok} (h:l[j]?=some t) (he:t.key=(0,[],0)∨t.key=(puT 41).key):SepD l j 4:=by
 intro c hc
 unfold isF
 rw [kTj h]
 have hc':c=0∨c=1∨c=2∨c=3:=by omega
 rcases he with he | he
 ·have hk:t.kind=0:=congrArg Prod.fst he
  rw [hk]
  rcases hc' with rfl | rfl | rfl | rfl<;>rfl
 ·have hk:t.text=[41]:=congrArg (fun p=>p.2.1) he
  rw [hk]
  rcases hc' with rfl | rfl | rfl | rfl<;>simp [opWd]
theorem sep_op {e:Nat} (he:e<4) (h:l[j]?=some (kyT (opWd e))):SepD l j e:=by
 intro c hc
 unfold isF
 rw [kTj h]
 have he':e=0∨e=1∨e=2∨e=3:=by omega
 have hc':c=0∨c=1∨c=2∨c=3:=by omega
 rcases he' with rfl | rfl | rfl | rfl<;>rcases hc' with rfl | rfl | rfl | rfl<;>rfl
theorem kVz {t:Tok} (h:l[i]?=some t) (D:Nat):isF l x ⟨i,0,D⟩=((decide (t.kind=3)||decide (t.kind=4))&&decide (t.text=x)):=by
 unfold isF
 rw [kTj h]
 simp
theorem need_tok {t:Tok} (h:l[i]?=some t) (hk:t.kind=3∨t.kind=4) (hx:t.text=x) (D:Nat):kPj l x ⟨i,0,D⟩=⟨i+1,0,D⟩:=by
 unfold kPj
 rw [kVz h,if_pos (by rcases hk with hk | hk<;>simp [hk,hx])]
 rfl
theorem kVq (h:l[i]?=some (idT x)) (D:Nat):kAj l ⟨i,0,D⟩=(x,⟨i+1,0,D⟩):=by
 unfold kAj
 rw [kTj h]
 rfl
theorem number_tok {n lo hi:Int} (h:l[i]?=some (nmT n)) (h0:0≤n) (h1:lo≤n) (h2:n≤hi) (D:Nat):kHq l lo hi ⟨i,0,D⟩=(n,⟨i+1,0,D⟩):=by
 unfold kHq
 rw [kTj h]
 have e:((n.toNat:Nat):Int)=n:=Int.toNat_of_nonneg h0
 have h3:¬(n<lo∨hi<n):=by omega
 simp only [nmT,e,if_neg h3,if_true]
 rfl
theorem sort_tok {s:Nat} (hs:s<4) (h:l[i]?=some (kyT (kDj.getD s []))) (D:Nat):kBz l ⟨i,0,D⟩=((s:Int),⟨i+1,0,D⟩):=by
 have hs':s=0∨s=1∨s=2∨s=3:=by omega
 unfold kBz kDj
 simp only [kPk]
 rw [kVz h,kVz h,kVz h,kVz h]
 rcases hs' with rfl | rfl | rfl | rfl<;>rfl
end
end Go.Proofs.YtkhbpebpljdifaaGreatDoor
namespace Go.Proofs.YtkhbpebpljdifaaGreatDoor
open Go.PL
section
variable {l:List Tok} {D i j d:Nat} {n:Nd} {x y:List UInt8}
theorem operand_atom {t:Tok} (h:l[i]?=some t) (hk:t.kind=1) (hr:kFj (atomP l) D i j n):kFj (kCj l (d+1)) D i j n:=by
 unfold kFj kCj
 simp only
 rw [kTj h,if_neg (by rw [hk];decide)]
 exact hr
theorem operand_true (h:l[i]?=some (kyT [116,114,117,101])):kFj (kCj l (d+1)) D i (i+1) (.mk 0 [] 0 0 0 []):=by
 unfold kFj kCj
 simp only
 rw [kTj h]
 simp [kyT,kBx]
theorem operand_false (h:l[i]?=some (kyT [102,97,108,115,101])):kFj (kCj l (d+1)) D i (i+1) (.mk 1 [] 0 0 0 []):=by
 unfold kFj kCj
 simp only
 rw [kTj h]
 simp [kyT,kBx]
theorem operand_paren (h:l[i]?=some (puT 40)) (hD:D<256) (hr:kFj (kLx l (kCj l d)) (D+1) (i+1) j n) (hj:l[j]?=some (puT 41)):kFj (kCj l (d+1)) D i (j+1) n:=by
 unfold kFj kCj
 simp only
 rw [kTj h]
 simp only [puT]
 have:kFj (parenP l (kLx l (kCj l d))) D i (j+1) n:=by
  refine levelP_reads hD ?_
  unfold kFj
  simp only
  rw [show kLx l (kCj l d) ⟨i+1,0,D+1⟩=_ from hr]
  rw [Option.map_some]
  simp only
  rw [need_tok (x:=[41]) hj (Or.inr rfl) rfl]
 unfold kFj at this
 simpa using this
theorem operand_not (h:l[i]?=some (kyT [110,111,116])) (hD:D<256) (hr:kFj (kCj l d) (D+1) (i+1) j n):kFj (kCj l (d+1)) D i j (.mk 11 [] 0 0 0 [n]):=by
 unfold kFj kCj
 simp only
 rw [kTj h]
 simp only [kyT]
 have:kFj (notP (kCj l d)) D i j (.mk 11 [] 0 0 0 [n]):=by
  refine levelP_reads hD ?_
  unfold kFj
  simp only
  rw [show kCj l d ⟨i+1,0,D+1⟩=_ from hr]
  rfl
 unfold kFj at this
 simpa using this
theorem bind_reads {s:Nat} (hs:s<4) (op:Int) (hD:D<256) (h1:l[i+1]?=some (kyT (kDj.getD s []))) (h2:l[i+2]?=some (idT x)) (h3:l[i+3]?=some (puT 58)) {fm:Rd} (hr:kFj fm (D+1) (i+4) j n):kFj (bindP l op fm) D i j (.mk op [x] s 0 0 [n]):=by
 refine levelP_reads hD ?_
 unfold kFj
 simp only
 rw [sort_tok hs h1]
 simp only
 rw [kVq h2]
 simp only
 rw [need_tok (i:=i+2+1) (x:=[58]) h3 (Or.inr rfl) rfl,show fm ⟨i+2+1+1,0,D+1⟩=_ from hr]
 rfl
theorem operand_some {s:Nat} (hs:s<4) (hD:D<256) (h:l[i]?=some (kyT [115,111,109,101])) (h1:l[i+1]?=some (kyT (kDj.getD s []))) (h2:l[i+2]?=some (idT x)) (h3:l[i+3]?=some (puT 58)) (hr:kFj (kLx l (kCj l d)) (D+1) (i+4) j n):kFj (kCj l (d+1)) D i j (.mk 16 [x] s 0 0 [n]):=by
 have:=bind_reads hs 16 hD h1 h2 h3 hr
 unfold kFj at this
 unfold kFj kCj
 simp only
 rw [kTj h]
 simp only [kyT]
 simpa using this
theorem operand_every {s:Nat} (hs:s<4) (hD:D<256) (h:l[i]?=some (kyT [101,118,101,114,121])) (h1:l[i+1]?=some (kyT (kDj.getD s []))) (h2:l[i+2]?=some (idT x)) (h3:l[i+3]?=some (puT 58)) (hr:kFj (kLx l (kCj l d)) (D+1) (i+4) j n):kFj (kCj l (d+1)) D i j (.mk 17 [x] s 0 0 [n]):=by
 have:=bind_reads hs 17 hD h1 h2 h3 hr
 unfold kFj at this
 unfold kFj kCj
 simp only
 rw [kTj h]
 simp only [kyT]
 simpa using this
theorem operand_size {n m:Int} (h0:0≤n) (h1:n<m) (h2:m≤64) (h:l[i]?=some (kyT [115,105,122,101])) (a1:l[i+1]?=some (idT x)) (a2:l[i+2]?=some (kyT [109,111,100])) (a3:l[i+3]?=some (nmT m)) (a4:l[i+4]?=some (kyT [105,115])) (a5:l[i+5]?=some (nmT n)):kFj (kCj l (d+1)) D i (i+6) (.mk 8 [x] 0 n m []):=by
 unfold kFj kCj
 simp only
 rw [kTj h]
 simp only [kyT]
 have e0:kBx ⟨i,0,D⟩=⟨i+1,0,D⟩:=rfl
 have:sizeP l ⟨i,0,D⟩=(.mk 8 [x] 0 n m [],⟨i+6,0,D⟩):=by
  unfold sizeP
  simp only
  rw [e0,kVq a1]
  simp only
  rw [need_tok (i:=i+1+1) (x:=[109,111,100]) a2 (Or.inl rfl) rfl,number_tok (i:=i+1+1+1) a3 (by omega) (by omega) (by omega)]
  simp only
  rw [need_tok (i:=i+1+1+1+1) (x:=[105,115]) a4 (Or.inl rfl) rfl,number_tok (i:=i+1+1+1+1+1) a5 h0 (by omega) (by omega)]
 simpa using this
theorem operand_one (h:l[i]?=some (kyT [111,110,101])) (a1:l[i+1]?=some (idT x)):kFj (kCj l (d+1)) D i (i+2) (.mk 9 [x] 0 0 0 []):=by
 unfold kFj kCj
 simp only
 rw [kTj h]
 simp only [kyT]
 have e0:kBx ⟨i,0,D⟩=⟨i+1,0,D⟩:=rfl
 have:oneP l ⟨i,0,D⟩=(.mk 9 [x] 0 0 0 [],⟨i+2,0,D⟩):=by
  unfold oneP
  simp only
  rw [e0,kVq a1]
 simpa using this
theorem operand_is {n:Int} (h0:0≤n) (h1:n≤7) (h:l[i]?=some (idT x)) (a1:l[i+1]?=some (kyT [105,115])) (a2:l[i+2]?=some (nmT n)):kFj (kCj l (d+1)) D i (i+3) (.mk 7 [x] 0 n 0 []):=by
 refine operand_atom h rfl ?_
 have e0:kBx ⟨i+1,0,D⟩=⟨i+2,0,D⟩:=rfl
 unfold kFj atomP
 simp only
 rw [kVq h]
 simp only
 rw [kVz a1,kVz a1]
 simp only [kyT]
 rw [if_neg (by decide),if_pos (by decide),e0,number_tok a2 h0 h0 h1]
def relT:Nat→Tok
 | 0=>puT 61
 | 1=>kyT [105,110]
 | 2=>kyT [115,117,98]
 | 3=>kyT [97,100,106]
 | _=>kyT [111,110]
theorem operand_two {k:Nat} (hk:k<5) (h:l[i]?=some (idT x)) (a1:l[i+1]?=some (relT k)) (a2:l[i+2]?=some (idT y)):kFj (kCj l (d+1)) D i (i+3) (.mk (2+k) [x,y] 0 0 0 []):=by
 refine operand_atom h rfl ?_
 have e0:kBx ⟨i+1,0,D⟩=⟨i+2,0,D⟩:=rfl
 have hk':k=0∨k=1∨k=2∨k=3∨k=4:=by omega
 unfold kFj atomP
 simp only
 rw [kVq h]
 simp only [kQz,kPk]
 rw [kVz a1,kVz a1,kVz a1,kVz a1,kVz a1,kVz a1,kVz a1]
 rcases hk' with rfl | rfl | rfl | rfl | rfl<;>simp [relT,kyT,puT,e0,kVq a2]
def argT:List (List UInt8)→List Tok
 | []=>[]
 | [x]=>[idT x]
 | x::y::r=>idT x::puT 44::argT (y::r)
theorem call_reads:∀(ys:List (List UInt8)) (k i:Nat) (xs:List (List UInt8)) (rest:List Tok),ys≠[]→xs.length+ys.length≤17→ys.length≤k→l.drop i=argT ys++puT 41::rest→kJk l k xs ⟨i,0,D⟩=some (xs++ys,⟨i+2*ys.length,0,D⟩)∧l.drop (i+2*ys.length)=rest
 | [],_,_,_,_,h,_,_,_=>absurd rfl h
 | [y],0,_,_,_,_,_,h,_=>by simp at h
 | y::z::r,0,_,_,_,_,_,h,_=>by simp at h
 | [y],k+1,i,xs,rest,_,h17,_,h=>by
  simp only [argT,List.cons_append,List.nil_append] at h
  obtain⟨a0,h⟩:=kEk h
  obtain⟨a1,h⟩:=kEk h
  simp only [List.length_cons,List.length_nil] at h17
  refine⟨?_,by simpa using h⟩
  simp only [kJk,if_true]
  rw [kTj a0]
  rw [if_neg (by simp only [idT];omega),kVq a0]
  simp only
  rw [kVz a1,if_neg (by simp [puT]),need_tok (x:=[41]) a1 (Or.inr rfl) rfl]
  rfl
 | y::z::r,k+1,i,xs,rest,_,h17,hk,h=>by
  simp only [argT,List.cons_append] at h
  obtain⟨a0,h⟩:=kEk h
  obtain⟨a1,h⟩:=kEk h
  simp only [List.length_cons] at h17 hk
  have ih:=call_reads (z::r) k (i+2) (xs++[y]) rest (by simp) (by simp;omega) (by simp;omega) h
  have e0:kBx ⟨i+1,0,D⟩=⟨i+2,0,D⟩:=rfl
  refine⟨?_,?_⟩
  ·simp only [kJk,if_true]
   rw [kTj a0]
   rw [if_neg (by simp only [idT];omega),kVq a0]
   simp only
   rw [kVz a1,if_pos (by simp [puT]),e0,ih.1]
   simp only [List.append_assoc,List.singleton_append,List.length_cons]
   rw [show i+2+2*(r.length+1)=i+2*(r.length+1+1) by omega]
  ·rw [←ih.2]
   simp only [List.length_cons]
   congr 1
   omega
theorem operand_call {f:List UInt8} {ys:List (List UInt8)} {rest:List Tok} (h17:ys.length≤16) (h:l.drop i=idT f::puT 40::(argT ys++puT 41::rest)):kFj (kCj l (d+1)) D i (i+2+(if ys=[] then 1 else 2*ys.length)) (.mk 10 (f::ys) 0 0 0 [])∧l.drop (i+2+(if ys=[] then 1 else 2*ys.length))=rest:=by
 obtain⟨a0,h⟩:=kEk h
 obtain⟨a1,h⟩:=kEk h
 have e0:kBx ⟨i+1,0,D⟩=⟨i+2,0,D⟩:=rfl
 have key:∀{j:Nat},callP l f ⟨i+1,0,D⟩=some (.mk 10 (f::ys) 0 0 0 [],⟨j,0,D⟩)→kFj (kCj l (d+1)) D i j (.mk 10 (f::ys) 0 0 0 []):=by
  intro j hc
  refine operand_atom a0 rfl ?_
  unfold kFj atomP
  simp only
  rw [kVq a0]
  simp only
  rw [kVz a1,if_pos (by simp [puT])]
  exact hc
 cases ys with
 | nil =>
  simp only [argT,List.nil_append] at h
  obtain⟨a2,h⟩:=kEk h
  refine⟨key ?_,by simpa using h⟩
  unfold callP
  simp only
  rw [e0,kVz a2,if_pos (by simp [puT])]
  rfl
 | cons y r =>
  have hl:(argT (y::r)++puT 41::rest)≠[]:=by simp
  have hq:∀(zs:List (List UInt8)),zs.length≤(argT zs).length:=by
   intro zs
   induction zs with
   | nil=>simp
   | cons a zs ih =>
    cases zs with
    | nil=>simp [argT]
    | cons b zs=>simp only [argT,List.length_cons] at ih ⊢;omega
  have hlen:(y::r).length≤l.length:=by
   have h1:=congrArg List.length h
   simp only [List.length_drop,List.length_append,List.length_cons] at h1
   have h2:=hq (y::r)
   simp only [List.length_cons] at h2 ⊢
   omega
  have hr:=call_reads (l:=l) (D:=D) (y::r) (l.length+1) (i+2) [f] rest (by simp) (by simp only [List.length_cons,List.length_nil] at h17 ⊢;omega) (by omega) h
  rw [if_neg (by simp)]
  refine⟨key ?_,hr.2⟩
  unfold callP
  simp only
  obtain⟨b0,-⟩:l[i+2]?=some (idT y)∧True:=by
   cases r with
   | nil=>exact⟨(kEk h).1,trivial⟩
   | cons z r=>exact⟨(kEk h).1,trivial⟩
  rw [e0,kVz b0,if_neg (by simp [idT]),hr.1]
  rfl
end
end Go.Proofs.YtkhbpebpljdifaaGreatDoor
namespace Go.Proofs.YtkhbpebpljdifaaGreatDoor
open Go.PL
def conW (op:Int):List UInt8:=opWd (op-12).toNat
def quW (op:Int):List UInt8:=if op=16 then [115,111,109,101] else [101,118,101,114,121]
def spB (L:List (Bool×Tok)):List UInt8:=L.flatMap fun p=>(if p.1 then [32] else [])++p.2.text
theorem spB_cons (b:Bool) (t:Tok) (r:List (Bool×Tok)):spB ((b,t)::r)=(if b then [32] else [])++(t.text++spB r):=by simp [spB]
mutual
def okF:Nd→Prop
 | .mk op names so n m l=>(∀x∈names,Real 1 x 0)∧(
   ((op=0∨op=1)∧names=[]∧l=[]∧so=0∧n=0∧m=0) ∨
   (2≤op∧op<7∧names.length=2∧l=[]∧so=0∧n=0∧m=0) ∨
   (op=7∧names.length=1∧l=[]∧so=0∧0≤n∧n≤7∧m=0) ∨
   (op=8∧names.length=1∧l=[]∧so=0∧0≤n∧n<m∧m≤64) ∨
   (op=9∧names.length=1∧l=[]∧so=0∧n=0∧m=0) ∨
   (op=10∧1≤names.length∧names.length≤17∧l=[]∧so=0∧n=0∧m=0) ∨
   (op=11∧names=[]∧l.length=1∧so=0∧n=0∧m=0) ∨
   (12≤op∧op<16∧names=[]∧l.length=2∧so=0∧n=0∧m=0) ∨
   (16≤op∧op<18∧names.length=1∧l.length=1∧0≤so∧so<4∧n=0∧m=0))∧oksF l
def oksF:List Nd→Prop
 | []=>True
 | x::xs=>okF x∧oksF xs
end
def EndK (t:Tok):Prop:=t.key=(0,[],0)∨t.key=(puT 41).key
theorem kRw (n:Nd):0<kCz n:=by cases n;simp [kCz];omega
end Go.Proofs.YtkhbpebpljdifaaGreatDoor
namespace Go.PL
theorem lxNum_fold (s:List UInt8):∀n:Nat,s.foldl (fun n b=>10*n+(b.toNat-48)) n=n*10 ^ s.length+kQw s:=by
 induction s with
 | nil=>intro n;simp [kQw]
 | cons b s ih =>
  intro n
  have h1:=ih (10*n+(b.toNat-48))
  have h2:=ih (10*0+(b.toNat-48))
  rw [List.foldl_cons,h1]
  show _=n*10 ^ (s.length+1)+s.foldl (fun n b=>10*n+(b.toNat-48)) (10*0+(b.toNat-48))
  rw [h2,Nat.pow_succ,Nat.add_mul,Nat.mul_zero,Nat.zero_add,Nat.add_assoc]
  congr 1
  rw [Nat.mul_comm 10 n,Nat.mul_assoc,Nat.mul_comm 10]
theorem lxNum_cons (b:UInt8) (s:List UInt8):kQw (b::s)=(b.toNat-48)*10 ^ s.length+kQw s:=by
 show s.foldl (fun n b=>10*n+(b.toNat-48)) (10*0+(b.toNat-48))=_
 rw [lxNum_fold]
 simp
structure NumI (k:Nat) (s:List UInt8) (m:Nat):Prop where
 dig:∀x∈s,kHz x=true
 val:kQw s+m*10 ^ s.length=k
 lead:m=0→s≠[]→s.length=1∨∃x t,s=x::t∧x.toNat≠48
 few:s.length≤1∨10 ^ (s.length-1)≤k
theorem digit_nat (m:Nat):(UInt8.ofNat (48+m % 10)).toNat=48+m % 10:=by
 rw [UInt8.toNat_ofNat']
 omega
theorem NumI.step {k m:Nat} {s:List UInt8} (h:NumI k s m) (hs:s=[]∨0<m):NumI k (UInt8.ofNat (48+m % 10)::s) (m / 10):=by
 have hd:=digit_nat m
 generalize UInt8.ofNat (48+m % 10)=d at *
 have hv:=h.val
 refine⟨?_,?_,?_,?_⟩
 ·intro x hx
  rcases List.mem_cons.1 hx with rfl | hx
  ·simp [kHz,hd];omega
  ·exact h.dig x hx
 ·rw [lxNum_cons,hd,List.length_cons,Nat.pow_succ,←hv]
  have h1:m=10*(m / 10)+m % 10:=(Nat.div_add_mod m 10).symm
  generalize m / 10=q at *
  generalize m % 10=r at *
  subst h1
  rw [show 48+r-48=r by omega,Nat.add_mul,show q*(10 ^ s.length*10)=10*q*10 ^ s.length by rw [Nat.mul_comm (10 ^ s.length) 10,←Nat.mul_assoc,Nat.mul_comm q 10]]
  omega
 ·intro h0 _
  rcases hs with rfl | hm
  ·exact Or.inl rfl
  ·refine Or.inr ⟨d,s,rfl,?_⟩
   rw [hd]
   omega
 ·rcases hs with rfl | hm
  ·exact Or.inl (by simp)
  ·refine Or.inr ?_
   rw [List.length_cons,Nat.add_sub_cancel,←hv]
   have:1*10 ^ s.length≤m*10 ^ s.length:=Nat.mul_le_mul_right _ hm
   omega
theorem NumI.short {k m:Nat} {s:List UInt8} (h:NumI k s m) (hk:k≤2147483647):s.length≤10:=by
 rcases h.few with h | h
 ·omega
 ·refine Nat.le_of_not_lt fun hlt=>?_
  have h1:10 ^ 10≤10 ^ (s.length-1):=Nat.pow_le_pow_right (by omega) (by omega)
  have:(10:Nat) ^ 10=10000000000:=by decide
  omega
end Go.PL
namespace Go.Proofs.YtkhbpebpljdifaaGreatDoor
open Go.PL
def Ahead (l c l' c':Nat):Prop:=l<l'∨(l=l'∧c<c')
def kYj (l c l' c':Nat):Prop:=l<l'∨(l=l'∧c≤c')
theorem lexS_places (s:List UInt8) (l c:Nat) (ts:List Tok) (h:lexS s l c=.ok ts):(∀t∈ts,kYj l c t.line t.col)∧ts.Pairwise fun a b=>Ahead a.line a.col b.line b.col:=by
 refine lex_ind (M:=fun s l c R=>∀ts,R=.ok ts→(∀t∈ts,kYj l c t.line t.col)∧ts.Pairwise fun a b=>Ahead a.line a.col b.line b.col) ?_ ?_ ?_ ?_ ?_ ?_ ?_ s.length s (Nat.le_refl _) l c ts h
 ·intro l c ts h
  cases h
  exact⟨fun t ht=>by simp at ht;subst ht;exact Or.inr ⟨rfl,Nat.le_refl _⟩,by simp⟩
 ·intro x s l c h hb ih ts he
  obtain⟨h1,h2⟩:=ih ts he
  exact⟨fun t ht=>by have:=h1 t ht;unfold kYj at this ⊢;omega,h2⟩
 ·intro x s l c hb h ih ts he
  obtain⟨h1,h2⟩:=ih ts he
  exact⟨fun t ht=>by have:=h1 t ht;unfold kYj at this ⊢;omega,h2⟩
 ·intro x s l c hm ih ts he
  generalize lexS s l (c+1)=R at ih he
  cases R with
  | error e=>cases he
  | ok us =>
   cases he
   obtain⟨h1,h2⟩:=ih _ rfl
   refine⟨fun t ht=>?_,List.pairwise_cons.2 ⟨fun t ht=>?_,h2⟩⟩
   ·rcases List.mem_cons.1 ht with rfl | ht
    ·exact Or.inr ⟨rfl,Nat.le_refl _⟩
    ·have:=h1 t ht;unfold kYj at this ⊢;omega
   ·have:=h1 t ht;unfold kYj at this;unfold Ahead;simp only;omega
 ·intro r s l c k v hn hr hs hc ih ts he
  generalize lexS s l (c+r.length)=R at ih he
  have hl:0<r.length:=List.length_pos_iff.2 hn
  cases R with
  | error e=>cases he
  | ok us =>
   cases he
   obtain⟨h1,h2⟩:=ih _ rfl
   refine⟨fun t ht=>?_,List.pairwise_cons.2 ⟨fun t ht=>?_,h2⟩⟩
   ·rcases List.mem_cons.1 ht with rfl | ht
    ·exact Or.inr ⟨rfl,Nat.le_refl _⟩
    ·have:=h1 t ht;unfold kYj at this ⊢;omega
   ·have:=h1 t ht;unfold kYj at this;unfold Ahead;simp only;omega
 ·intro r s l c e hn hr hs hc ts he
  cases he
 ·intro x s l c hb hm hi ts he
  cases he
theorem fin_of {ts:List Tok} {l c:Nat} (_h:∀t∈ts,Real t.kind t.text t.val):Fin (ts++[⟨0,[],0,l,c⟩]):=by
 intro i t hi hk
 by_cases hlt:i<ts.length
 ·simp;omega
 ·rw [List.getElem?_append_right (by omega)] at hi
  cases hd:i-ts.length with
  | zero =>
   rw [hd] at hi
   simp at hi
   subst hi
   exact absurd rfl hk
  | succ m =>
   rw [hd] at hi
   simp at hi
theorem lexT_fin {s:List UInt8} {ts:List Tok} (h:lexT s=.ok ts):Fin ts∧0<ts.length∧ts.length≤s.length+1∧s.length≤65536∧(ts.map fun t=>t.text.length).sum≤s.length∧(∀t∈ts,1≤t.line)∧(ts.Pairwise fun a b=>Ahead a.line a.col b.line b.col):=by
 unfold lexT at h
 split at h
 ·cases h
 ·obtain⟨ts',l',c',rfl,h1,h2,h3⟩:=lexS_real s 1 1 ts h
  obtain⟨p1,p2⟩:=lexS_places s 1 1 _ h
  refine⟨fin_of h1,by simp,by simp;omega,by omega,by simpa using h2,fun t ht=>?_,p2⟩
  have:=p1 t ht
  unfold kYj at this
  omega
def glue:Bool→List (Bool×Tok)→Bool
 | _,[]=>true
 | pm,(b,t)::r=>(b||pm||decide (t.kind=4))&&glue (decide (t.kind=4)) r
theorem mark_of {t:Tok} (h:Real t.kind t.text t.val) (hk:t.kind=4):∃x,t.text=[x]∧kXx x=true∧t.val=0:=by
 rcases h with⟨x,h1,h2,-,h4⟩ | ⟨-,-,h3⟩
 ·exact⟨x,h1,h2,h4⟩
 ·rcases classify_kind h3 with h | h | h<;>omega
theorem lexS_glue:∀(L:List (Bool×Tok)) (pm:Bool) (l c:Nat),(∀p∈L,Real p.2.kind p.2.text p.2.val)→glue pm L=true →
  ∃us l' c',lexS (spB L) l c=.ok (us++[⟨0,[],0,l',c'⟩])∧us.map Tok.key=L.map fun p=>p.2.key
 | [],_,l,c,_,_=>⟨[],l,c,by simp [spB,lexS_nil],rfl⟩
 | (b,t)::r,pm,l,c,hr,hg=>by
  have hreal:=hr (b,t) (by simp)
  simp only at hreal
  simp only [glue,Bool.and_eq_true] at hg
  rw [spB_cons]
  obtain⟨l1,c1,h1⟩:=lexS_ws (if b then [32] else []) (t.text++spB r) l c (by cases b<;>simp<;>decide)
  rw [h1]
  by_cases hk:t.kind=4
  ·obtain⟨x,hx,hm,hv⟩:=mark_of hreal hk
   obtain⟨us,l',c',h2,h3⟩:=lexS_glue r _ l1 (c1+1) (fun p hp=>hr p (by simp [hp])) hg.2
   refine⟨⟨4,[x],0,l1,c1⟩::us,l',c',?_,?_⟩
   ·rw [hx,List.singleton_append,lexS_mark (mark_not hm).2 hm,h2]
    rfl
   ·rw [List.map_cons,List.map_cons,h3]
    congr 1
    unfold Tok.key
    simp only [hk,hx,hv]
  ·obtain⟨us,l',c',h2,h3⟩:=lexS_glue r _ l1 (c1+t.text.length) (fun p hp=>hr p (by simp [hp])) hg.2
   refine⟨⟨t.kind,t.text,t.val,l1,c1⟩::us,l',c',?_,?_⟩
   ·rw [lexS_tok hreal,h2]
    ·rfl
    ·have hg2:=hg.2
     rw [decide_eq_false hk] at hg2
     match r,hg2,hr with
     | [],_,_=>exact Starts.nil
     | (b2,u)::r2,hg2,hr =>
      rw [spB_cons]
      cases b2 with
      | true=>exact Starts.cons (by decide) _
      | false =>
       simp only [glue,Bool.and_eq_true,Bool.or_false,Bool.false_or,decide_eq_true_eq] at hg2
       obtain⟨y,hy,hm,-⟩:=mark_of (hr (false,u) (by simp)) hg2.1
       simp only [Bool.false_eq_true,if_false,List.nil_append]
       rw [show u.text=[y] from hy]
       exact Starts.cons (mark_not hm).1 _
   ·rw [List.map_cons,List.map_cons,h3]
    rfl
def RealT (t:Tok):Prop:=Real t.kind t.text t.val
theorem real_ky {x:List UInt8} (h:(x.all kDq&&decide (x≠[])&&(match kEw x with | .ok (a,b)=>decide (a=3)&&decide (b=0) | _=>false))=true):RealT (kyT x):=by
 simp only [Bool.and_eq_true,decide_eq_true_eq,List.all_eq_true] at h
 refine Or.inr ⟨h.1.2,h.1.1,?_⟩
 have h2:=h.2
 show kEw x=.ok (3,0)
 split at h2
 ·rename_i a b hc
  simp only [Bool.and_eq_true,decide_eq_true_eq] at h2
  rw [hc,h2.1,h2.2]
 ·cases h2
theorem real_pu {c:UInt8} (h:kXx c=true):RealT (puT c):=Or.inl ⟨c,rfl,h,rfl,rfl⟩
theorem real_nm {n:Int} (h0:0≤n) (h1:n≤64):RealT (nmT n):=by
 have key:∀m:_root_.Fin 65,((digF 3 m.val).all kDq&&decide (digF 3 m.val≠[])&&(match kEw (digF 3 m.val) with | .ok (a,b)=>decide (a=2)&&decide (b=m.val) | _=>false))=true:=by decide
 have h:=key ⟨n.toNat,by omega⟩
 simp only [Bool.and_eq_true,decide_eq_true_eq,List.all_eq_true] at h
 refine Or.inr ⟨h.1.2,h.1.1,?_⟩
 have h2:=h.2
 show kEw (digF 3 n.toNat)=.ok (2,n.toNat)
 split at h2
 ·rename_i a b hc
  simp only [Bool.and_eq_true,decide_eq_true_eq] at h2
  rw [hc,h2.1,h2.2]
 ·cases h2
theorem kVk {x:List UInt8} (h:Real 1 x 0):RealT (idT x):=h
theorem real_rel (k:Nat):RealT (relT k):=by
 unfold relT
 split
 ·exact real_pu (by decide)
 all_goals exact real_ky (by decide)
theorem real_con (op:Int):RealT (kyT (conW op)):=by
 unfold conW opWd
 split<;>exact real_ky (by decide)
theorem real_qu (op:Int):RealT (kyT (quW op)):=by
 unfold quW
 split<;>exact real_ky (by decide)
theorem real_sort {s:Nat} (h:s<4):RealT (kyT (kDj.getD s [])):=by
 have h':s=0∨s=1∨s=2∨s=3:=by omega
 rcases h' with rfl | rfl | rfl | rfl<;>exact real_ky (by decide)
def AllR (L:List (Bool×Tok)):Prop:=∀p∈L,RealT p.2
theorem allR_nil:AllR []:=fun p h=>by cases h
theorem allR_cons {b:Bool} {t:Tok} {L:List (Bool×Tok)} (h:RealT t) (hL:AllR L):AllR ((b,t)::L):=by
 intro p hp
 rcases List.mem_cons.1 hp with rfl | hp
 ·exact h
 ·exact hL p hp
theorem allR_app {a c:List (Bool×Tok)} (h:AllR a) (hc:AllR c):AllR (a++c):=by
 intro p hp
 rcases List.mem_append.1 hp with hp | hp
 ·exact h p hp
 ·exact hc p hp
theorem oks_mem {x:Nd}:∀{l:List Nd},x∈l→kCz x≤kBk l∧(oksF l→okF x)
 | [],h=>by cases h
 | a::l,h=>by
  simp only [kBk]
  unfold oksF
  rcases List.mem_cons.1 h with rfl | h
  ·exact⟨by omega,fun h=>h.1⟩
  ·have:=oks_mem h
   exact⟨by omega,fun h=>this.2 h.2⟩
theorem lex_text {L:List (Bool×Tok)} (hr:AllR L) (hg:glue true L=true) (hl:(spB L).length≤65536):∃ts,lexT (spB L)=.ok ts∧Alike (L.map Prod.snd++[⟨0,[],0,0,0⟩]) ts:=by
 obtain⟨us,l',c',h1,h2⟩:=lexS_glue L true 1 1 hr hg
 refine⟨_,by rw [lexT,if_neg (by omega)];exact h1,?_⟩
 unfold Alike
 rw [List.map_append,List.map_append,h2,List.map_map]
 rfl
theorem endF_done {l:List Tok} {q:Qn} {i:Nat} (h:(tkAt l ⟨i,0,0⟩).kind=0) (hg:kIz q.body=0):endF l q ⟨i,0,0⟩=⟨q,0,0,0⟩:=by
 unfold endF
 simp only [h,if_true,hg]
def varB:List (List UInt8×Int)→List (Bool×Tok)
 | []=>[]
 | [v]=>[(true,kyT (kDj.getD v.2.toNat [])),(true,idT v.1)]
 | v::u::r=>(true,kyT (kDj.getD v.2.toNat []))::(true,idT v.1)::(false,puT 44)::varB (u::r)
def freeB:List (List UInt8×Int)→List (Bool×Tok)
 | []=>[]
 | v::r=>(false,kyT [102,105,110,100])::(varB (v::r)++[(false,puT 58)])
def okV (f:List (List UInt8×Int)):Prop:=f.length≤8∧(∀v∈f,Real 1 v.1 0∧0≤v.2∧v.2<4)∧f.Pairwise fun a b=>a.1≠b.1
theorem varLoop_reads {l:List Tok}:∀(f:List (List UInt8×Int)) (out:List (List UInt8×Int)) (k i:Nat) (rest:List Tok),f≠[]→okV (out++f)→f.length≤k→l.drop i=(varB f).map Prod.snd++puT 58::rest →
  ∃j,kNz l k out ⟨i,0,0⟩=some (out++f,⟨j,0,0⟩)∧l.drop j=rest
 | [],_,_,_,_,h,_,_,_=>absurd rfl h
 | v::r,out,0,_,_,_,_,h,_=>by simp at h
 | v::r,out,k+1,i,rest,_,hok,hk,h=>by
  obtain⟨h8,hv,hp⟩:=hok
  have hv0:=hv v (by simp)
  obtain⟨x,s⟩:=v
  obtain⟨s,rfl⟩:∃t:Nat,s=t:=⟨s.toNat,by have:=hv0.2.1;simp only at this;omega⟩
  have hs4:s<4:=by have:=hv0.2.2;simp only at this;omega
  have hne:(out.any fun o=>decide (o.1=x))=false:=by
   rw [List.any_eq_false]
   intro o ho
   have:=(List.pairwise_append.1 hp).2.2 o ho (x,(s:Int)) (by simp)
   simpa using this
  have hout:out.length≠8:=by simp at h8;omega
  have head:∃(t:Tok) (us:List Tok),l.drop i=kyT (kDj.getD s [])::idT x::t::us∧((r=[]∧t=puT 58∧us=rest)∨(r≠[]∧t=puT 44∧us=(varB r).map Prod.snd++puT 58::rest)):=by
   cases r with
   | nil=>exact⟨_,_,h,Or.inl ⟨rfl,rfl,rfl⟩⟩
   | cons u r=>exact⟨_,_,h,Or.inr ⟨by simp,rfl,rfl⟩⟩
  obtain⟨t,us,h,hcase⟩:=head
  obtain⟨a0,h0⟩:=kEk h
  obtain⟨a1,h1⟩:=kEk h0
  obtain⟨a2,h2⟩:=kEk h1
  have step:kNz l (k+1) out ⟨i,0,0⟩=if isF l [44] ⟨i+1+1,0,0⟩=true then kNz l k (out++[(x,(s:Int))]) (kBx ⟨i+1+1,0,0⟩) else some (out++[(x,(s:Int))],kPj l [58] ⟨i+1+1,0,0⟩):=by
   have hs2:(if (tkAt l ⟨i+1,0,0⟩).kind=1 then (if out.length=8 then kCk 8 ⟨i+1,0,0⟩ else if (out.any fun o=>decide (o.1=(tkAt l ⟨i+1,0,0⟩).text))=true then kCk 7 ⟨i+1,0,0⟩ else ⟨i+1,0,0⟩) else ⟨i+1,0,0⟩)=(⟨i+1,0,0⟩:PS):=by
    rw [kTj a1]
    have:(out.any fun o=>decide (o.1=(idT x).text))=false:=hne
    rw [this]
    simp [hout]
   simp only [kNz,if_true]
   rw [sort_tok hs4 a0]
   simp only
   rw [hs2,kVq a1]
  rw [step,kVz a2]
  rcases hcase with⟨rfl,rfl,rfl⟩ | ⟨hr,rfl,rfl⟩
  ·refine⟨i+1+1+1,?_,h2⟩
   rw [if_neg (by simp [puT]),need_tok (x:=[58]) a2 (Or.inr rfl) rfl]
  ·rw [if_pos (by simp [puT])]
   have e0:kBx ⟨i+1+1,0,0⟩=⟨i+1+1+1,0,0⟩:=rfl
   rw [e0]
   obtain⟨j,h1,h2⟩:=varLoop_reads r (out++[(x,(s:Int))]) k (i+1+1+1) rest hr (by rw [List.append_assoc];exact⟨h8,hv,hp⟩) (by simpa using hk) h2
   exact⟨j,by rw [h1,List.append_assoc];rfl,h2⟩
theorem varB_len:∀(f:List (List UInt8×Int)),f.length≤(varB f).length
 | []=>by simp
 | [v]=>by simp [varB]
 | v::u::r=>by have:=varB_len (u::r);simp only [varB,List.length_cons] at this ⊢;omega
theorem freeP_reads {l:List Tok} {f:List (List UInt8×Int)} {rest:List Tok} (hok:okV f) (h:l=(freeB f).map Prod.snd++rest) (hno:f=[]→isF l [102,105,110,100] ⟨0,0,0⟩=false):∃j,freeP l ⟨0,0,0⟩=some (f,⟨j,0,0⟩)∧l.drop j=rest:=by
 cases f with
 | nil =>
  refine⟨0,?_,h⟩
  unfold freeP
  rw [hno rfl]
  rfl
 | cons v r =>
  have hd:l.drop 0=kyT [102,105,110,100]::((varB (v::r)).map Prod.snd++puT 58::rest):=by rw [List.drop_zero,h];simp [freeB]
  obtain⟨a0,hd⟩:=kEk hd
  have hlen:(v::r).length≤l.length+1:=by
   have h1:=varB_len (v::r)
   rw [h]
   simp only [freeB,List.map_cons,List.map_append,List.length_append,List.length_cons,List.length_map]
   simp only [List.length_cons] at h1
   omega
  obtain⟨j,h1,h2⟩:=varLoop_reads (v::r) [] (l.length+1) 1 rest (by simp) (by simpa using hok) hlen hd
  refine⟨j,?_,h2⟩
  unfold freeP
  rw [kVz a0,if_pos (by simp [kyT])]
  exact h1
theorem allR_var:∀(f:List (List UInt8×Int)),(∀v∈f,Real 1 v.1 0∧0≤v.2∧v.2<4)→AllR (varB f)
 | [],_=>allR_nil
 | [v],h=>by
  have h0:=h v (by simp)
  exact allR_cons (real_sort (by omega)) (allR_cons (kVk h0.1) allR_nil)
 | v::u::r,h=>by
  have h0:=h v (by simp)
  exact allR_cons (real_sort (by omega)) (allR_cons (kVk h0.1) (allR_cons (real_pu (by decide)) (allR_var (u::r) (fun w hw=>h w (List.mem_cons_of_mem _ hw)))))
def headOk (b:Bool) (L:List (Bool×Tok)):Prop:=∃t r,L=(b,t)::r∧(t.text≠[102,105,110,100]∨t.kind=1)
theorem headOk.mk {b:Bool} {t:Tok} {r:List (Bool×Tok)} (h:t.text≠[102,105,110,100]∨t.kind=1):headOk b ((b,t)::r):=⟨t,r,rfl,h⟩
theorem no_find {l:List Tok} {t:Tok} {r:List Tok} (h:l=t::r) (ht:t.text≠[102,105,110,100]∨t.kind=1):isF l [102,105,110,100] ⟨0,0,0⟩=false:=by
 rw [kVz (t:=t) (by rw [h];rfl)]
 rcases ht with ht | ht
 ·simp [ht]
 ·simp [ht]
def opF:Nd→Int
 | .mk op _ _ _ _ _=>op
def opNd (l:List Nd) (i:Nat):Int:=(l.map opF).getD i 0
def kMz (op:Int) (place:Nat) (c:Int):Bool :=
 if c<11∨15<c then false
 else if op=11 then decide (11<c)
 else if op=12 then decide (12<c)||(decide (place=1)&&decide (c=12))
 else if op=13 then decide (13<c)||(decide (place=1)&&decide (c=13))
 else if op=14 then decide (c=15)||(decide (place=0)&&decide (c=14))
 else if op=15 then decide (place=1)&&decide (c=15)
 else false
def parB (op:Int) (place:Nat) (c:Int) (last:Bool):Bool:=kMz op place c||(decide (15<c)&&!last)
def parT (b:Bool) (t u:List Tok):List Tok:=if b then puT 40::(t++[puT 41]) else u
def parL (b:Bool) (t u:Nat):Nat:=if b then 1+t else u
def kIk (op:Int) (names:List (List UInt8)) (n m:Int):List Tok :=
 if op=0 then [kyT [116,114,117,101]]
 else if op=1 then [kyT [102,97,108,115,101]]
 else if op<7 then [idT (names.getD 0 []),relT (op-2).toNat,idT (names.getD 1 [])]
 else if op=7 then [idT (names.getD 0 []),kyT [105,115],nmT n]
 else if op=8 then [kyT [115,105,122,101],idT (names.getD 0 []),kyT [109,111,100],nmT m,kyT [105,115],nmT n]
 else if op=9 then [kyT [111,110,101],idT (names.getD 0 [])]
 else idT (names.getD 0 [])::puT 40::(argT names.tail++[puT 41])
mutual
def prT:Bool→Nd→List Tok
 | last,.mk op names so n m l =>
  if op<11 then kIk op names n m
  else if op=11 then kyT [110,111,116]::parT (parB 11 0 (opNd l 0) last) ((prsT true l).getD 0 []) ((prsT last l).getD 0 [])
  else if op<16 then parT (parB op 0 (opNd l 0) false) ((prsT true l).getD 0 []) ((prsT false l).getD 0 [])++kyT (conW op)::parT (parB op 1 (opNd l 1) last) ((prsT true l).getD 1 []) ((prsT last l).getD 1 [])
  else kyT (quW op)::kyT (kDj.getD so.toNat [])::idT (names.getD 0 [])::puT 58::(prsT true l).getD 0 []
def prsT:Bool→List Nd→List (List Tok)
 | _,[]=>[]
 | last,x::xs=>prT last x::prsT last xs
end
mutual
def lvF:Bool→Nd→Nat
 | last,.mk op _ _ _ _ l =>
  if op<11 then 0
  else if op=11 then 1+parL (parB 11 0 (opNd l 0) last) ((lvsF true l).getD 0 0) ((lvsF last l).getD 0 0)
  else if op<16 then max (parL (parB op 0 (opNd l 0) false) ((lvsF true l).getD 0 0) ((lvsF false l).getD 0 0)) (parL (parB op 1 (opNd l 1) last) ((lvsF true l).getD 1 0) ((lvsF last l).getD 1 0))
  else 1+(lvsF true l).getD 0 0
def lvsF:Bool→List Nd→List Nat
 | _,[]=>[]
 | last,x::xs=>lvF last x::lvsF last xs
end
def rdD (l:List Tok) (d:Nat):Nat→Rd
 | 0=>kCj l d
 | 1=>leftP l [97,110,100] 12 (kCj l d)
 | 2=>orsP l (kCj l d)
 | 3=>kMj l (kCj l d)
 | _=>kLx l (kCj l d)
def levF (op:Int):Nat:=if op=12 then 1 else if op=13 then 2 else if op=14 then 3 else if op=15 then 4 else 0
def foldD (op:Int):Nd→List Nd→Nd
 | n,[]=>n
 | n,m::ms=>foldD op (.mk op [] 0 0 0 [n,m]) ms
theorem foldD_snoc (op:Int):∀(ms:List Nd) (n m:Nd),foldD op n (ms++[m])=.mk op [] 0 0 0 [foldD op n ms,m]
 | [],n,m=>rfl
 | k::ms,n,m=>by simp only [List.cons_append,foldD];exact foldD_snoc op ms _ m
def ItemsD (l:List Tok) (of:Rd) (x:List UInt8) (D:Nat):Nat→List Nd→Nat→Prop
 | i,[],j=>i=j
 | i,m::ms,j=>isF l x ⟨i,0,0⟩=true∧∃i',kFj of D (i+1) i' m∧ItemsD l of x D i' ms j
section
variable {l:List Tok} {D:Nat} {of:Rd} {x:List UInt8}
theorem items_snoc:∀(ms:List Nd) (i j k:Nat) (m:Nd),ItemsD l of x D i ms j→isF l x ⟨j,0,0⟩=true→kFj of D (j+1) k m→ItemsD l of x D i (ms++[m]) k
 | [],i,j,k,m,h,hx,hr=>by
  have h:i=j:=h
  subst h
  exact⟨hx,k,hr,rfl⟩
 | n::ms,i,j,k,m,⟨h,i',hr',hi⟩,hx,hr=>⟨h,i',hr',items_snoc ms i' j k m hi hx hr⟩
theorem leftLoop_D (op:Int):∀(ms:List Nd) (k i j:Nat) (n:Nd),ItemsD l of x D i ms j→isF l x ⟨j,0,0⟩=false→ms.length<k→kIq l x op of k n ⟨i,0,D⟩=some (foldD op n ms,⟨j,0,D⟩)
 | ms,0,i,j,n,_,_,h=>by omega
 | [],k+1,i,j,n,e,h,_=>by
  have e:i=j:=e
  subst e
  unfold kIq
  rw [isF_dp,h]
  rfl
 | m::ms,k+1,i,j,n,⟨h,i',hr,hi⟩,he,hk=>by
  unfold kIq
  rw [isF_dp,if_pos h,show of (kBx ⟨i,0,D⟩)=_ from hr]
  exact leftLoop_D op ms k i' j _ hi he (by simpa using hk)
theorem leftP_D {op:Int} {i i1 j:Nat} {n:Nd} {ms:List Nd} (hr:kFj of D i i1 n) (hi:ItemsD l of x D i1 ms j) (he:isF l x ⟨j,0,0⟩=false) (hl:ms.length≤l.length):kFj (leftP l x op of) D i j (foldD op n ms):=by
 unfold kFj leftP
 rw [show of ⟨i,0,D⟩=_ from hr]
 exact leftLoop_D op ms (l.length+1) i1 j n hi he (by omega)
theorem implLoop_D:∀(ms:List Nd) (k i j:Nat) (acc:List Nd),ItemsD l of [105,109,112,108,105,101,115] D i ms j→isF l [105,109,112,108,105,101,115] ⟨j,0,0⟩=false→ms.length<k→kJq l of k acc ⟨i,0,D⟩=some (acc++ms,⟨j,0,D⟩)
 | ms,0,i,j,n,_,_,h=>by omega
 | [],k+1,i,j,acc,e,h,_=>by
  have e:i=j:=e
  subst e
  unfold kJq
  rw [isF_dp,h,List.append_nil]
  rfl
 | m::ms,k+1,i,j,acc,⟨h,i',hr,hi⟩,he,hk=>by
  unfold kJq
  rw [isF_dp,if_pos h,show of (kBx ⟨i,0,D⟩)=_ from hr]
  have:=implLoop_D ms k i' j (acc++[m]) hi he (by simpa using hk)
  rw [Option.bind_some]
  simp only [this,List.append_assoc,List.singleton_append]
theorem impliesP_D {i i1 j:Nat} {n:Nd} {ms:List Nd} (hr:kFj (orsP l of) D i i1 n) (hi:ItemsD l (orsP l of) [105,109,112,108,105,101,115] D i1 ms j) (he:isF l [105,109,112,108,105,101,115] ⟨j,0,0⟩=false) (hl:ms.length≤l.length):kFj (kMj l of) D i j (kJz (n::ms)):=by
 unfold kFj kMj
 rw [show orsP l of ⟨i,0,D⟩=_ from hr]
 have:=implLoop_D ms (l.length+1) i1 j [n] hi he (by omega)
 rw [Option.bind_some]
 simp only [this]
 rfl
end
theorem rdD_raise {l:List Tok} {d D a i j e:Nat} {n:Nd} (hr:kFj (rdD l d a) D i j n) (hs:SepD l j e):∀b,a≤b→b≤4→b≤e→kFj (rdD l d b) D i j n
 | 0,h,_,_=>by have:a=0:=by omega
               subst this;exact hr
 | b+1,h,h4,he=>by
  by_cases hab:a=b+1
  ·subst hab;exact hr
  ·have h1:=rdD_raise hr hs b (by omega) (by omega) (by omega)
   have h2:isF l (opWd b) ⟨j,0,0⟩=false:=by rw [hs b (by omega)];simp;omega
   have hb:b=0∨b=1∨b=2∨b=3:=by omega
   rcases hb with rfl | rfl | rfl | rfl
   ·exact leftP_none h1 h2
   ·exact leftP_none h1 h2
   ·exact impl_none h1 h2
   ·exact leftP_none h1 h2
theorem rdD_chain {l:List Tok} {d D c:Nat} (hc:c<4) (h2:c≠2) {i i1 j:Nat} {n:Nd} {ms:List Nd} (hr:kFj (rdD l d c) D i i1 n) (hi:ItemsD l (rdD l d c) (opWd c) D i1 ms j) (he:isF l (opWd c) ⟨j,0,0⟩=false) (hl:ms.length≤l.length):kFj (rdD l d (c+1)) D i j (foldD (12+c) n ms):=by
 have hb:c=0∨c=1∨c=3:=by omega
 rcases hb with rfl | rfl | rfl
 ·exact leftP_D hr hi he hl
 ·exact leftP_D hr hi he hl
 ·exact leftP_D hr hi he hl
end Go.Proofs.YtkhbpebpljdifaaGreatDoor
namespace Go.Proofs.YtkhbpebpljdifaaGreatDoor
open Go.PL
theorem levF_le (op:Int):levF op≤4:=by
 unfold levF
 repeat' split
 all_goals omega
structure RdRes (l:List Tok) (d D i j:Nat) (nd:Nd) (e len lv:Nat):Prop where
 A:∀b,lv≤b→b≤4→b≤e→kFj (rdD l d b) D i j nd
 B:∀c,c<4→c≠2→lv≤c+1→c≤e→∃i1 n1 ms,kFj (rdD l d c) D i i1 n1∧ItemsD l (rdD l d c) (opWd c) D i1 ms j∧foldD (12+c) n1 ms=nd∧ms.length<len
 C:lv≤3→3≤e→∃i1 n1 ms,kFj (rdD l d 2) D i i1 n1∧ItemsD l (rdD l d 2) (opWd 2) D i1 ms j∧kJz (n1::ms)=nd∧ms.length<len
theorem RdRes.of0 {l:List Tok} {d D i j:Nat} {nd:Nd} {e len:Nat} (lv:Nat) (hr:kFj (rdD l d 0) D i j nd) (hs:SepD l j e) (hl:0<len):RdRes l d D i j nd e len lv:=by
 have hA:∀b,b≤4→b≤e→kFj (rdD l d b) D i j nd:=fun b h1 h2=>rdD_raise hr hs b (by omega) h1 h2
 exact⟨fun b _ h1 h2=>hA b h1 h2,fun c h1 _ _ h3=>⟨j,nd,[],hA c (by omega) h3,rfl,rfl,hl⟩,fun _ h=>⟨j,nd,[],hA 2 (by omega) (by omega),rfl,rfl,hl⟩⟩
def RP (k:Nat):Prop:=∀(nd:Nd),kCz nd≤k→okF nd→∀(l:List Tok) (last:Bool) (D d i e:Nat) (t:Tok) (rest:List Tok),d+D=257→D+lvF last nd≤256→(last=true∨opF nd≤15)→(last=true→EndK t∧e=4)→(∀j,l[j]?=some t→SepD l j e)→e≤4 →
 l.drop i=prT last nd++t::rest→∃j,l.drop j=t::rest∧RdRes l d D i j nd e (prT last nd).length (levF (opF nd))
theorem prT_pos (last:Bool) (nd:Nd):0<(prT last nd).length:=by
 obtain⟨op,names,so,n,m,l⟩:=nd
 unfold prT
 by_cases h1:op<11
 ·rw [if_pos h1]
  unfold kIk
  repeat' split
  all_goals simp
 ·rw [if_neg h1]
  by_cases h2:op=11
  ·rw [if_pos h2];simp
  ·rw [if_neg h2]
   by_cases h3:op<16
   ·rw [if_pos h3];simp;omega
   ·rw [if_neg h3];simp
theorem child_reads {k:Nat} (ih:RP k) {c:Nd} (hc:kCz c≤k) (hok:okF c) (op:Int) (place:Nat) (l:List Tok) (last:Bool) (D d i e:Nat) (t:Tok) (rest:List Tok) (hd:d+D=257) (hD:D+parL (parB op place (opF c) last) (lvF true c) (lvF last c)≤256)
  (hlast:last=true→EndK t∧e=4) (hs:∀j,l[j]?=some t→SepD l j e) (he:e≤4) (h:l.drop i=parT (parB op place (opF c) last) (prT true c) (prT last c)++t::rest) :
  ∃j,l.drop j=t::rest∧RdRes l d D i j c e (parT (parB op place (opF c) last) (prT true c) (prT last c)).length (if parB op place (opF c) last=true then 0 else levF (opF c)):=by
 cases hb:parB op place (opF c) last with
 | true =>
  rw [hb] at hD h
  simp only [parT,parL,if_true] at hD h ⊢
  obtain⟨d,rfl⟩:∃d',d=d'+1:=⟨d-1,by omega⟩
  rw [List.cons_append,List.append_assoc] at h
  obtain⟨a0,h1⟩:=kEk h
  obtain⟨j,hj,hr⟩:=ih c hc hok l true (D+1) d (i+1) 4 (puT 41) (t::rest) (by omega) (by omega) (Or.inl rfl) (fun _=>⟨Or.inr rfl,rfl⟩) (fun j hj=>sep_end hj (Or.inr rfl)) (by omega) h1
  obtain⟨a1,h2⟩:=kEk hj
  have hl4:levF (opF c)≤4:=levF_le _
  exact⟨_,h2,RdRes.of0 0 (operand_paren a0 (by omega) (hr.A 4 hl4 (by omega) (by omega)) a1) (hs _ (kEk h2).1) (by simp)⟩
 | false =>
  rw [hb] at hD h
  simp only [parT,parL,if_false,Bool.false_eq_true] at hD h ⊢
  refine ih c hc hok l last D d i e t rest hd hD ?_ hlast hs he h
  unfold parB at hb
  simp only [Bool.or_eq_false_iff,Bool.and_eq_false_iff,decide_eq_false_iff_not,Bool.not_eq_false'] at hb
  rcases hb.2 with h | h
  ·exact Or.inr (by omega)
  ·exact Or.inl h
theorem atom_reads {l:List Tok} {d D i:Nat} {op so n m:Int} {names:List (List UInt8)} {ls:List Nd} {rest:List Tok} (hok:okF (.mk op names so n m ls)) (hop:op<11) (h:l.drop i=kIk op names n m++rest):∃j,kFj (kCj l (d+1)) D i j (.mk op names so n m ls)∧l.drop j=rest:=by
 unfold okF at hok
 obtain⟨hnm,hc,-⟩:=hok
 unfold kIk at h
 rcases hc with⟨h1 | h1,rfl,rfl,rfl,rfl,rfl⟩ | ⟨h1,h2,h3,rfl,rfl,rfl,rfl⟩ | ⟨rfl,h3,rfl,rfl,h4,h5,rfl⟩ | ⟨rfl,h3,rfl,rfl,h4,h5,h6⟩ | ⟨rfl,h3,rfl,rfl,rfl,rfl⟩ | ⟨rfl,h3,h4,rfl,rfl,rfl,rfl⟩ | ⟨rfl,-⟩ | ⟨h1,-⟩ | ⟨h1,-⟩
 ·subst h1
  rw [if_pos rfl] at h
  obtain⟨a0,h⟩:=kEk h
  exact⟨_,operand_true a0,h⟩
 ·subst h1
  rw [if_neg (by decide),if_pos rfl] at h
  obtain⟨a0,h⟩:=kEk h
  exact⟨_,operand_false a0,h⟩
 ·match names,h3 with
  | [x,y],_ =>
   obtain⟨k,rfl⟩:∃k:Nat,op=2+k:=⟨(op-2).toNat,by omega⟩
   rw [if_neg (by omega),if_neg (by omega),if_pos h2,show ((2:Int)+k-2).toNat=k by omega] at h
   obtain⟨a0,h⟩:=kEk h
   obtain⟨a1,h⟩:=kEk h
   obtain⟨a2,h⟩:=kEk h
   exact⟨_,operand_two (by omega) a0 a1 a2,h⟩
 ·match names,h3 with
  | [x],_ =>
   rw [if_neg (by decide),if_neg (by decide),if_neg (by decide),if_pos rfl] at h
   obtain⟨a0,h⟩:=kEk h
   obtain⟨a1,h⟩:=kEk h
   obtain⟨a2,h⟩:=kEk h
   exact⟨_,operand_is h4 h5 a0 a1 a2,h⟩
 ·match names,h3 with
  | [x],_ =>
   rw [if_neg (by decide),if_neg (by decide),if_neg (by decide),if_neg (by decide),if_pos rfl] at h
   obtain⟨a0,h⟩:=kEk h
   obtain⟨a1,h⟩:=kEk h
   obtain⟨a2,h⟩:=kEk h
   obtain⟨a3,h⟩:=kEk h
   obtain⟨a4,h⟩:=kEk h
   obtain⟨a5,h⟩:=kEk h
   exact⟨_,operand_size h4 h5 h6 a0 a1 a2 a3 a4 a5,h⟩
 ·match names,h3 with
  | [x],_ =>
   rw [if_neg (by decide),if_neg (by decide),if_neg (by decide),if_neg (by decide),if_neg (by decide),if_pos rfl] at h
   obtain⟨a0,h⟩:=kEk h
   obtain⟨a1,h⟩:=kEk h
   exact⟨_,operand_one a0 a1,h⟩
 ·match names,h3 with
  | f::ys,_ =>
   rw [if_neg (by decide),if_neg (by decide),if_neg (by decide),if_neg (by decide),if_neg (by decide),if_neg (by decide)] at h
   simp only [List.tail_cons,List.getD_cons_zero,List.cons_append,List.append_assoc,List.nil_append] at h
   obtain⟨hr,h⟩:=operand_call (D:=D) (d:=d) (by simpa using h4) h
   exact⟨_,hr,h⟩
 ·omega
 ·omega
 ·omega
theorem con_nat {c:Nat}:conW (12+c)=opWd c:=by
 unfold conW
 rw [show ((12:Int)+c-12).toNat=c by omega]
theorem reads_pr:∀(k:Nat),RP k
 | 0,nd,hn,_=>by have:=kRw nd;omega
 | k+1,.mk op names so n m ls,hn,hok=>by
  intro l last D d i e t rest hd hD hlq hlast hs he h
  have hok':=hok
  unfold okF at hok'
  obtain⟨hnm,hc,hsok⟩:=hok'
  have hpos:=prT_pos last (.mk op names so n m ls)
  have hlen:(prT last (.mk op names so n m ls)).length≤l.length:=by
   have:=congrArg List.length h
   simp only [List.length_drop,List.length_append] at this
   omega
  obtain⟨d,rfl⟩:∃d',d=d'+1:=⟨d-1,by omega⟩
  by_cases h11:op<11
  ·unfold prT at h
   rw [if_pos h11] at h
   obtain⟨j,hr,hj⟩:=atom_reads (D:=D) (d:=d) hok h11 h
   exact⟨j,hj,RdRes.of0 _ hr (hs j (kEk hj).1) hpos⟩
  unfold kCz at hn
  unfold lvF at hD
  rw [if_neg h11] at hD
  generalize hL:(prT last (.mk op names so n m ls)).length=len at hpos hlen ⊢
  unfold prT at h hL
  rw [if_neg h11] at h hL
  by_cases h12:op=11
  ·subst h12
   rw [if_pos rfl] at h hD
   obtain⟨a,rfl⟩:∃a,ls=[a]:=by
    rcases hc with h | h | h | h | h | h | h | h | h
    ·omega
    ·omega
    ·omega
    ·omega
    ·omega
    ·omega
    ·exact List.length_eq_one_iff.1 h.2.2.1
    ·omega
    ·omega
   simp only [kBk] at hn
   simp only [prsT,lvsF,opNd,List.map_cons,List.map_nil,List.getD_cons_zero] at h hD
   unfold oksF at hsok
   obtain⟨a0,h1⟩:=kEk h
   obtain⟨j,hj,hr⟩:=child_reads (reads_pr k) (by omega) hsok.1 11 0 l last (D+1) d (i+1) e t rest (by omega) (by omega) hlast hs he h1
   have hlev:(if parB 11 0 (opF a) last=true then 0 else levF (opF a))=0:=by
    by_cases hb:parB 11 0 (opF a) last=true
    ·rw [if_pos hb]
    ·rw [if_neg hb]
     unfold parB kMz at hb
     unfold levF
     by_cases g:opF a<11∨15<opF a
     ·rw [if_neg (by omega),if_neg (by omega),if_neg (by omega),if_neg (by omega)]
     ·rw [if_neg g] at hb
      simp only [if_true,Bool.or_eq_true,decide_eq_true_eq,not_or] at hb
      rw [if_neg (by omega),if_neg (by omega),if_neg (by omega),if_neg (by omega)]
   have h0:=hr.A 0 (by rw [hlev];exact Nat.le_refl _) (by omega) (by omega)
   have hnm0:names=[]∧so=0∧n=0∧m=0:=by
    rcases hc with h | h | h | h | h | h | h | h | h
    ·omega
    ·omega
    ·omega
    ·omega
    ·omega
    ·omega
    ·exact⟨h.2.1,h.2.2.2⟩
    ·omega
    ·omega
   obtain⟨rfl,rfl,rfl,rfl⟩:=hnm0
   exact⟨j,hj,RdRes.of0 _ (operand_not a0 (by omega) h0) (hs j (kEk hj).1) hpos⟩
  rw [if_neg h12] at h hD hL
  by_cases h16:op<16
  ·rw [if_pos h16] at h hD hL
   obtain⟨c,rfl⟩:∃c:Nat,op=12+c:=⟨(op-12).toNat,by omega⟩
   have hc4:c<4:=by omega
   have hshape:names=[]∧ls.length=2∧so=0∧n=0∧m=0:=by
    rcases hc with h | h | h | h | h | h | h | h | h
    ·omega
    ·omega
    ·omega
    ·omega
    ·omega
    ·omega
    ·omega
    ·exact h.2.2
    ·omega
   obtain⟨rfl,hls,rfl,rfl,rfl⟩:=hshape
   match ls,hls with
   | [a,b],_ =>
    simp only [kBk] at hn
    simp only [prsT,lvsF,opNd,List.map_cons,List.map_nil,List.getD_cons_zero,List.getD_cons_succ] at h hD hL
    unfold oksF oksF at hsok
    rw [List.append_assoc,List.cons_append,con_nat] at h
    rw [con_nat,List.length_append,List.length_cons] at hL
    obtain⟨j1,hj1,hr1⟩:=child_reads (reads_pr k) (c:=a) (by omega) hsok.1 (12+c) 0 l false D (d+1) i c (kyT (opWd c)) _ (by omega) (by omega) (fun h=>by cases h) (fun j hj=>sep_op hc4 hj) (by omega) h
    obtain⟨a1,h1⟩:=kEk hj1
    obtain⟨j2,hj2,hr2⟩:=child_reads (reads_pr k) (c:=b) (by omega) hsok.2.1 (12+c) 1 l last D (d+1) (j1+1) e t rest (by omega) (by omega) hlast hs he h1
    have hsep1:=sep_op hc4 a1
    have hw:isF l (opWd c) ⟨j1,0,0⟩=true:=by rw [hsep1 c hc4];simp
    have hsep2:=hs j2 (kEk hj2).1
    have hlvA:(if parB (12+c) 0 (opF a) false=true then 0 else levF (opF a))≤(if c=2 then 2 else c+1):=by
     by_cases hb:parB (12+c) 0 (opF a) false=true
     ·rw [if_pos hb];omega
     ·rw [if_neg hb]
      unfold parB kMz at hb
      unfold levF
      by_cases g:opF a<11∨15<opF a
      ·rw [if_neg (by omega),if_neg (by omega),if_neg (by omega),if_neg (by omega)];omega
      ·rw [if_neg g] at hb
       have hcc:c=0∨c=1∨c=2∨c=3:=by omega
       rcases hcc with rfl | rfl | rfl | rfl<;>simp at hb ⊢<;>(repeat' split)<;>omega
    have hlvB:(if parB (12+c) 1 (opF b) last=true then 0 else levF (opF b))≤(if c=2 then 3 else c):=by
     by_cases hb:parB (12+c) 1 (opF b) last=true
     ·rw [if_pos hb];omega
     ·rw [if_neg hb]
      unfold parB kMz at hb
      unfold levF
      by_cases g:opF b<11∨15<opF b
      ·rw [if_neg (by omega),if_neg (by omega),if_neg (by omega),if_neg (by omega)];omega
      ·rw [if_neg g] at hb
       have hcc:c=0∨c=1∨c=2∨c=3:=by omega
       rcases hcc with rfl | rfl | rfl | rfl<;>simp at hb ⊢<;>(repeat' split)<;>omega
    have hlev:levF (12+c)=c+1:=by
     have hcc:c=0∨c=1∨c=2∨c=3:=by omega
     rcases hcc with rfl | rfl | rfl | rfl<;>rfl
    simp only [opF]
    rw [hlev]
    refine⟨j2,hj2,?_⟩
    by_cases hc2:c=2
    ·subst hc2
     simp only [if_true] at hlvA hlvB
     have hA2:=hr1.A 2 hlvA (by omega) (by omega)
     have chain:3≤e→∃i1 n1 ms,kFj (rdD l (d+1) 2) D i i1 n1∧ItemsD l (rdD l (d+1) 2) (opWd 2) D i1 ms j2∧kJz (n1::ms)=.mk ((12:Int)+(2:Nat)) [] 0 0 0 [a,b]∧ms.length<len:=by
      intro he3
      obtain⟨i1,n1,ms,g1,g2,g3,g4⟩:=hr2.C hlvB he3
      exact⟨j1,a,n1::ms,hA2,⟨hw,i1,g1,g2⟩,by rw [←g3];rfl,by simp only [List.length_cons];omega⟩
     have hA3:3≤e→kFj (rdD l (d+1) 3) D i j2 (.mk ((12:Int)+(2:Nat)) [] 0 0 0 [a,b]):=by
      intro he3
      obtain⟨i1,n1,ms,g1,g2,g3,g4⟩:=chain he3
      rw [←g3]
      exact impliesP_D g1 g2 (by have:=hsep2 2 (by omega);rw [show opWd 2=[105,109,112,108,105,101,115] from rfl] at this;rw [this];simp;omega) (by omega)
     refine⟨fun q h1 h2 h3=>rdD_raise (hA3 (by omega)) hsep2 q h1 h2 h3,fun q h1 h2 h3 h4=>?_,fun _ he3=>chain he3⟩
     have hq:q=3:=by omega
     subst hq
     exact⟨j2,_,[],hA3 h4,rfl,rfl,hpos⟩
    ·rw [if_neg hc2] at hlvA hlvB
     have hcl:=hr1.B c hc4 hc2 (by omega) (Nat.le_refl _)
     obtain⟨i1,n1,ms,g1,g2,g3,g4⟩:=hcl
     have chain:c≤e→ItemsD l (rdD l (d+1) c) (opWd c) D i1 (ms++[b]) j2:=fun hce=>items_snoc ms i1 j1 j2 b g2 hw (hr2.A c hlvB (by omega) hce)
     have hfold:foldD (12+c) n1 (ms++[b])=.mk ((12:Int)+c) [] 0 0 0 [a,b]:=by rw [foldD_snoc,g3]
     have hml:(ms++[b]).length<len:=by simp only [List.length_append,List.length_cons,List.length_nil];omega
     have hA1:c+1≤e→kFj (rdD l (d+1) (c+1)) D i j2 (.mk ((12:Int)+c) [] 0 0 0 [a,b]):=by
      intro hce
      rw [←hfold]
      exact rdD_chain hc4 hc2 g1 (chain (by omega)) (by rw [hsep2 c hc4];simp;omega) (by omega)
     refine⟨fun q h1 h2 h3=>rdD_raise (hA1 (by omega)) hsep2 q h1 h2 h3,fun q h1 h2 h3 h4=>?_,fun h1 he3=>⟨j2,_,[],rdD_raise (hA1 (by omega)) hsep2 2 (by omega) (by omega) (by omega),rfl,rfl,hpos⟩⟩
     by_cases hq:q=c
     ·subst hq
      exact⟨i1,n1,ms++[b],g1,chain h4,hfold,hml⟩
     ·exact⟨j2,_,[],rdD_raise (hA1 (by omega)) hsep2 q (by omega) (by omega) h4,rfl,rfl,hpos⟩
  ·rw [if_neg h16] at h hD hL
   have hl:last=true:=by
    rcases hlq with h | h
    ·exact h
    ·simp only [opF] at h;omega
   obtain⟨hEnd,rfl⟩:=hlast hl
   have hshape:op<18∧names.length=1∧ls.length=1∧0≤so∧so<4∧n=0∧m=0:=by
    rcases hc with h | h | h | h | h | h | h | h | h
    ·omega
    ·omega
    ·omega
    ·omega
    ·omega
    ·omega
    ·omega
    ·omega
    ·exact h.2
   obtain⟨h18,hn1,hl1,hs0,hs4,rfl,rfl⟩:=hshape
   obtain⟨s,rfl⟩:∃s:Nat,so=s:=⟨so.toNat,by omega⟩
   match ls,hl1,names,hn1 with
   | [a],_,[x],_ =>
    simp only [kBk] at hn
    simp only [prsT,lvsF,List.getD_cons_zero,List.cons_append] at h hD
    unfold oksF at hsok
    obtain⟨a0,h0⟩:=kEk h
    obtain⟨a1,h1⟩:=kEk h0
    obtain⟨a2,h2⟩:=kEk h1
    obtain⟨a3,h3⟩:=kEk h2
    obtain⟨j,hj,hr⟩:=reads_pr k a (by omega) hsok.1 l true (D+1) d (i+1+1+1+1) 4 t rest (by omega) (by omega) (Or.inl rfl) (fun _=>⟨hEnd,rfl⟩) hs (by omega) h3
    have hl4:levF (opF a)≤4:=levF_le _
    have hf:=hr.A 4 hl4 (by omega) (by omega)
    have hop:op=16∨op=17:=by omega
    rcases hop with rfl | rfl
    ·exact⟨j,hj,RdRes.of0 _ (operand_some (by omega) (by omega) a0 a1 a2 a3 hf) (hs j (kEk hj).1) hpos⟩
    ·exact⟨j,hj,RdRes.of0 _ (operand_every (by omega) (by omega) a0 a1 a2 a3 hf) (hs j (kEk hj).1) hpos⟩
theorem sizes_mem {x:Nd}:∀{l:List Nd},x∈l→kCz x≤kBk l
 | a::l,h=>by
  simp only [kBk]
  rcases List.mem_cons.1 h with rfl | h
  ·omega
  ·have:=sizes_mem h;omega
def AllT (L:List Tok):Prop:=∀t∈L,RealT t
theorem kGk {t:Tok} {L:List Tok} (h:RealT t) (hL:AllT L):AllT (t::L):=by
 intro p hp
 rcases List.mem_cons.1 hp with rfl | hp
 ·exact h
 ·exact hL p hp
theorem kXk:AllT []:=fun p h=>by cases h
theorem allT_app {a c:List Tok} (h:AllT a) (hc:AllT c):AllT (a++c):=by
 intro p hp
 rcases List.mem_append.1 hp with hp | hp
 ·exact h p hp
 ·exact hc p hp
theorem allT_par {b:Bool} {t u:List Tok} (h:AllT t) (hu:AllT u):AllT (parT b t u):=by
 cases b
 ·exact hu
 ·exact kGk (real_pu (by decide)) (allT_app h (kGk (real_pu (by decide)) kXk))
theorem allT_arg:∀(ys:List (List UInt8)),(∀y∈ys,Real 1 y 0)→AllT (argT ys)
 | [],_=>kXk
 | [x],h=>kGk (h x (by simp)) kXk
 | x::y::r,h=>kGk (h x (by simp)) (kGk (real_pu (by decide)) (allT_arg (y::r) (fun z hz=>h z (List.mem_cons_of_mem _ hz))))
theorem allT_pr:∀(k:Nat) (nd:Nd),kCz nd≤k→okF nd→∀last,AllT (prT last nd)
 | 0,nd,hn,_,_=>by have:=kRw nd;omega
 | k+1,.mk op names so n m ls,hn,hok,last=>by
  unfold okF at hok
  obtain⟨hnm,hc,hs⟩:=hok
  unfold prT
  unfold kCz at hn
  have hget:∀(b:Bool) (l:List Nd) (i:Nat),(∀x∈l,x∈ls)→AllT ((prsT b l).getD i []):=by
   intro b l
   induction l with
   | nil=>intro i _;simpa [prsT] using kXk
   | cons a l ih =>
    intro i h
    cases i with
    | zero =>
     have ha:=oks_mem (h a (by simp))
     simpa [prsT] using allT_pr k a (by omega) (ha.2 hs) b
    | succ i=>simpa [prsT] using ih i (fun x hx=>h x (by simp [hx]))
  have hg:=fun b i=>hget b ls i (fun x hx=>hx)
  have h40:RealT (puT 40):=real_pu (by decide)
  have h41:AllT [puT 41]:=kGk (real_pu (by decide)) kXk
  by_cases h11:op<11
  ·rw [if_pos h11]
   unfold kIk
   rcases hc with⟨h1 | h1,rfl,rfl,rfl,rfl,rfl⟩ | ⟨h1,h2,h3,rfl,rfl,rfl,rfl⟩ | ⟨rfl,h3,rfl,rfl,h4,h5,rfl⟩ | ⟨rfl,h3,rfl,rfl,h4,h5,h6⟩ | ⟨rfl,h3,rfl,rfl,rfl,rfl⟩ | ⟨rfl,h3,h4,rfl,rfl,rfl,rfl⟩ | ⟨rfl,-⟩ | ⟨h1,-⟩ | ⟨h1,-⟩
   ·subst h1
    rw [if_pos rfl]
    exact kGk (real_ky (by decide)) kXk
   ·subst h1
    rw [if_neg (by decide),if_pos rfl]
    exact kGk (real_ky (by decide)) kXk
   ·match names,h3 with
    | [x,y],_ =>
     rw [if_neg (by omega),if_neg (by omega),if_pos h2]
     exact kGk (kVk (hnm x (by simp))) (kGk (real_rel _) (kGk (kVk (hnm y (by simp))) kXk))
   ·match names,h3 with
    | [x],_ =>
     rw [if_neg (by decide),if_neg (by decide),if_neg (by decide),if_pos rfl]
     exact kGk (kVk (hnm x (by simp))) (kGk (real_ky (by decide)) (kGk (real_nm h4 (by omega)) kXk))
   ·match names,h3 with
    | [x],_ =>
     rw [if_neg (by decide),if_neg (by decide),if_neg (by decide),if_neg (by decide),if_pos rfl]
     exact kGk (real_ky (by decide)) (kGk (kVk (hnm x (by simp))) (kGk (real_ky (by decide)) (kGk (real_nm (by omega) (by omega)) (kGk (real_ky (by decide)) (kGk (real_nm h4 (by omega)) kXk)))))
   ·match names,h3 with
    | [x],_ =>
     rw [if_neg (by decide),if_neg (by decide),if_neg (by decide),if_neg (by decide),if_neg (by decide),if_pos rfl]
     exact kGk (real_ky (by decide)) (kGk (kVk (hnm x (by simp))) kXk)
   ·match names,h3 with
    | f::ys,_ =>
     rw [if_neg (by decide),if_neg (by decide),if_neg (by decide),if_neg (by decide),if_neg (by decide),if_neg (by decide)]
     exact kGk (kVk (hnm f (by simp))) (kGk h40 (allT_app (allT_arg ys (fun y hy=>hnm y (by simp [hy]))) h41))
   ·omega
   ·omega
   ·omega
  rw [if_neg h11]
  by_cases h12:op=11
  ·rw [if_pos h12]
   exact kGk (real_ky (by decide)) (allT_par (hg _ _) (hg _ _))
  rw [if_neg h12]
  by_cases h16:op<16
  ·rw [if_pos h16]
   exact allT_app (allT_par (hg _ _) (hg _ _)) (kGk (real_con _) (allT_par (hg _ _) (hg _ _)))
  ·rw [if_neg h16]
   have hq:names.length=1∧0≤so∧so<4:=by
    rcases hc with h | h | h | h | h | h | h | h | h
    ·omega
    ·omega
    ·omega
    ·omega
    ·omega
    ·omega
    ·omega
    ·omega
    ·exact⟨h.2.2.1,h.2.2.2.2.1,h.2.2.2.2.2.1⟩
   match names,hq with
   | [x],hq=>exact kGk (real_qu _) (kGk (real_sort (by omega)) (kGk (kVk (hnm x (by simp))) (kGk (real_pu (by decide)) (hg _ _))))
def prQ (q:Qn):List Tok:=(freeB q.free).map Prod.snd++prT true q.body
def jnB:List Tok→List (Bool×Tok)
 | []=>[]
 | t::r=>(false,t)::r.map fun u=>(true,u)
theorem jnB_snd:∀(L:List Tok),(jnB L).map Prod.snd=L
 | []=>rfl
 | t::r=>by simp [jnB,Function.comp_def]
theorem glue_all:∀(L:List Tok) (pm:Bool),glue pm (L.map fun u=>(true,u))=true
 | [],_=>rfl
 | t::r,pm=>by simp only [List.map_cons,glue,Bool.true_or,Bool.true_and];exact glue_all r _
theorem jn_lex {L:List Tok} (hr:AllT L) (hl:(spB (jnB L)).length≤65536):∃ts,lexT (spB (jnB L))=.ok ts∧Alike (L++[⟨0,[],0,0,0⟩]) ts:=by
 have h:=lex_text (L:=jnB L) (fun p hp=>hr p.2 (by rw [←jnB_snd L];exact List.mem_map_of_mem hp)) (by
  cases L with
  | nil=>rfl
  | cons t r=>simp only [jnB,glue,Bool.or_true,Bool.true_or,Bool.true_and];exact glue_all r _) hl
 rwa [jnB_snd] at h
theorem prQ_real {q:Qn} (hv:okV q.free) (hb:okF q.body):AllT (prQ q):=by
 unfold prQ
 refine allT_app ?_ (allT_pr _ q.body (Nat.le_refl _) hb true)
 intro t ht
 obtain⟨p,hp,rfl⟩:=List.mem_map.1 ht
 cases hf:q.free with
 | nil=>rw [hf] at hp;cases hp
 | cons v r =>
  rw [hf] at hp
  have h1:=allR_var (v::r) (by rw [←hf];exact hv.2.1)
  exact (allR_cons (real_ky (by decide)) (allR_app h1 (allR_cons (real_pu (by decide)) allR_nil)):AllR _) p hp
theorem prT_head (last:Bool) (nd:Nd):∃t r,prT last nd=t::r∧(t.text≠[102,105,110,100]∨t.kind=1):=by
 have key:∀(k:Nat) (nd:Nd),kCz nd≤k→∀last,∃t r,prT last nd=t::r∧(t.text≠[102,105,110,100]∨t.kind=1):=by
  intro k
  induction k with
  | zero=>intro nd hn;have:=kRw nd;omega
  | succ k ih =>
   intro nd hn last
   obtain⟨op,names,so,n,m,l⟩:=nd
   unfold kCz at hn
   unfold prT
   by_cases h11:op<11
   ·rw [if_pos h11]
    unfold kIk
    by_cases g0:op=0
    ·rw [if_pos g0];exact⟨_,_,rfl,Or.inl (by simp [kyT])⟩
    rw [if_neg g0]
    by_cases g1:op=1
    ·rw [if_pos g1];exact⟨_,_,rfl,Or.inl (by simp [kyT])⟩
    rw [if_neg g1]
    by_cases g2:op<7
    ·rw [if_pos g2];exact⟨_,_,rfl,Or.inr rfl⟩
    rw [if_neg g2]
    by_cases g3:op=7
    ·rw [if_pos g3];exact⟨_,_,rfl,Or.inr rfl⟩
    rw [if_neg g3]
    by_cases g4:op=8
    ·rw [if_pos g4];exact⟨_,_,rfl,Or.inl (by simp [kyT])⟩
    rw [if_neg g4]
    by_cases g5:op=9
    ·rw [if_pos g5];exact⟨_,_,rfl,Or.inl (by simp [kyT])⟩
    rw [if_neg g5];exact⟨_,_,rfl,Or.inr rfl⟩
   rw [if_neg h11]
   by_cases h12:op=11
   ·rw [if_pos h12];exact⟨_,_,rfl,Or.inl (by simp [kyT])⟩
   rw [if_neg h12]
   by_cases h16:op<16
   ·rw [if_pos h16]
    cases hb:parB op 0 (opNd l 0) false with
    | true=>exact⟨_,_,rfl,Or.inl (by simp [puT])⟩
    | false =>
     simp only [parT,Bool.false_eq_true,if_false]
     cases l with
     | nil=>exact⟨_,_,rfl,Or.inl (by simp only [kyT,conW];unfold opWd;split<;>simp)⟩
     | cons a l =>
      simp only [kBk] at hn
      obtain⟨t,r,h1,h2⟩:=ih a (by omega) false
      simp only [prsT,List.getD_cons_zero,h1]
      exact⟨_,_,rfl,h2⟩
   ·rw [if_neg h16]
    exact⟨_,_,rfl,Or.inl (by simp only [kyT,quW];split<;>simp)⟩
 exact key _ nd (Nat.le_refl _) last
theorem whole_pr {nd:Nd} (hok:okF nd) (hd:lvF true nd≤256) {l:List Tok} {i:Nat} (h:l.drop i=prT true nd++[⟨0,[],0,0,0⟩]):wholeP l ⟨i,0,0⟩=some (nd,⟨l.length-1,0,0⟩):=by
 obtain⟨j,hj,hr⟩:=reads_pr _ nd (Nat.le_refl _) hok l true 0 257 i 4 ⟨0,[],0,0,0⟩ [] rfl (by omega) (Or.inl rfl) (fun _=>⟨Or.inl rfl,rfl⟩) (fun j hj=>sep_end hj (Or.inl rfl)) (by omega) h
 have hlen:=congrArg List.length hj
 simp only [List.length_drop,List.length_cons,List.length_nil] at hlen
 have:j=l.length-1:=by omega
 rw [←this]
 exact hr.A 4 (levF_le _) (by omega) (by omega)
theorem prQ_parse {q:Qn} (hv:okV q.free) (hb:okF q.body) (hd:lvF true q.body≤256) {l:List Tok} (hl:Alike (prQ q++[⟨0,[],0,0,0⟩]) l):kFw l=some (q,⟨l.length-1,0,0⟩):=by
 have hlen:=al_len hl
 rw [←al_query hl]
 obtain⟨t0,r0,hh,ht0⟩:=prT_head true q.body
 obtain⟨j,h1,h2⟩:=freeP_reads (l:=prQ q++[⟨0,[],0,0,0⟩]) (rest:=prT true q.body++[⟨0,[],0,0,0⟩]) hv (by unfold prQ;rw [List.append_assoc]) (fun h0=>by
  refine no_find (t:=t0) (r:=r0++[⟨0,[],0,0,0⟩]) ?_ ht0
  unfold prQ
  rw [hh,h0]
  rfl)
 unfold kFw
 rw [h1,Option.bind_some]
 simp only
 rw [whole_pr hb hd h2,←hlen]
 rfl
theorem pr_bare {nd:Nd} (hb:okF nd) (hd:lvF true nd≤256) {l:List Tok} (hl:Alike (prT true nd++[⟨0,[],0,0,0⟩]) l):bareP l=some (⟨[],nd⟩,⟨l.length-1,0,0⟩):=by
 have hlen:=al_len hl
 rw [←al_bare hl]
 unfold bareP
 have hw:=whole_pr (l:=prT true nd++[⟨0,[],0,0,0⟩]) (i:=0) hb hd (by rw [List.drop_zero])
 rw [hw,←hlen]
 rfl
def jn (L:List Tok):List UInt8:=spB (jnB L)
theorem jn_cons (t:Tok) (r:List Tok):jn (t::r)=t.text++r.flatMap (fun u=>32::u.text):=by
 simp [jn,jnB,spB,List.flatMap_map]
theorem jn_app {a b:List Tok} (ha:a≠[]) (hb:b≠[]):jn (a++b)=jn a++32::jn b:=by
 cases a with
 | nil=>exact absurd rfl ha
 | cons t r =>
  cases b with
  | nil=>exact absurd rfl hb
  | cons u s=>simp [jn_cons]
theorem jn_join (L:List Tok):jn L=Lib.join (L.map Tok.text) [32]:=by
 cases L with
 | nil=>rfl
 | cons t r =>
  rw [jn_cons,List.map_cons,Lib.join_cons]
  congr 1
  simp only [Lib.joinTail,List.flatMap_def,List.map_map]
  rfl
theorem prT_ne (last:Bool) (nd:Nd):prT last nd≠[]:=by
 obtain⟨t,r,h,-⟩:=prT_head last nd
 rw [h]
 simp
def RealL (l:List Tok):Prop:=∀t∈l,t.kind≠0→RealT t
section
variable {l:List Tok} (hR:RealL l)
include hR
end
end Go.Proofs.YtkhbpebpljdifaaGreatDoor
namespace Go.Proofs.YtkhbpebpljdifaaGreatDoor
open Go.PL
def wt (t:Tok):Nat:=t.text.length+1
def wts (L:List Tok):Nat:=(L.map wt).sum
theorem wts_app (a b:List Tok):wts (a++b)=wts a+wts b:=by simp [wts]
theorem kDw (t:Tok) (b:List Tok):wts (t::b)=wt t+wts b:=by simp [wts]
theorem kKz:wts []=0:=rfl
mutual
def ownW:Nd→Nat
 | .mk op names so n m l =>
  if op<11 then wts (kIk op names n m)
  else if op=11 then 4+(ownsW l).getD 0 0
  else if op<16 then (ownsW l).getD 0 0+wt (kyT (conW op))+(ownsW l).getD 1 0
  else wt (kyT (quW op))+wt (kyT (kDj.getD so.toNat []))+wt (idT (names.getD 0 []))+2+(ownsW l).getD 0 0
def ownsW:List Nd→List Nat
 | []=>[]
 | x::xs=>ownW x::ownsW xs
end
theorem wts_par (b:Bool) (t u:List Tok):wts (parT b t u)≤max (4+wts t) (wts u):=by
 cases b
 ·simp only [parT,Bool.false_eq_true,if_false];omega
 ·simp only [parT,if_true,kDw,wts_app,kKz]
  have:wt (puT 40)=2:=rfl
  have:wt (puT 41)=2:=rfl
  omega
theorem size_get:∀(l:List Nd),(l.map kCz).getD 0 0+(l.map kCz).getD 1 0≤kBk l
 | []=>by simp
 | [x]=>by simp [kBk]
 | x::y::r=>by simp only [List.map_cons,List.getD_cons_zero,List.getD_cons_succ,kBk];omega
theorem pr_own:∀(k:Nat) (nd:Nd),kCz nd≤k→∀last,wts (prT last nd)+4≤ownW nd+4*kCz nd
 | 0,nd,hn,_=>by have:=kRw nd;omega
 | k+1,.mk op names so n m ls,hn,last=>by
  unfold kCz at hn
  have hg:∀last i,wts ((prsT last ls).getD i [])+4≤(ownsW ls).getD i 0+4*((ls.map kCz).getD i 0)∨wts ((prsT last ls).getD i [])=0:=by
   intro last i
   have key:∀(l:List Nd),(∀x∈l,kCz x≤k)→∀i,wts ((prsT last l).getD i [])+4≤(ownsW l).getD i 0+4*((l.map kCz).getD i 0)∨wts ((prsT last l).getD i [])=0:=by
    intro l
    induction l with
    | nil=>intro _ i;right;simp [prsT,kKz]
    | cons x xs ih =>
     intro h i
     cases i with
     | zero=>left;simpa [prsT,ownsW] using pr_own k x (h x (by simp)) last
     | succ i=>simpa [prsT,ownsW] using ih (fun y hy=>h y (by simp [hy])) i
   exact key ls (fun x hx=>by have:=sizes_mem hx;omega) i
  have hsz:=size_get ls
  unfold prT ownW kCz
  by_cases h1:op<11
  ·rw [if_pos h1,if_pos h1];omega
  rw [if_neg h1,if_neg h1]
  have g00:=hg true 0
  have g01:=hg true 1
  have g10:=hg false 0
  have g11:=hg last 0
  have g12:=hg last 1
  have nilPar:∀(b:Bool) (t u:List Tok) ,wts (parT b t u)≤max (4+wts t) (wts u):=wts_par
  by_cases h2:op=11
  ·rw [if_pos h2,if_pos h2,kDw]
   have hw:=nilPar (parB 11 0 (opNd ls 0) last) ((prsT true ls).getD 0 []) ((prsT last ls).getD 0 [])
   have:wt (kyT [110,111,116])=4:=rfl
   cases ls with
   | nil =>
    have e:parB 11 0 (opNd [] 0) last=false:=by unfold parB kMz opNd;simp
    rw [e]
    simp [parT,prsT,kKz,ownsW]
    omega
   | cons a r =>
    have:=kRw a
    simp only [List.map_cons,List.getD_cons_zero] at g00 g11 hsz
    omega
  rw [if_neg h2,if_neg h2]
  by_cases h3:op<16
  ·rw [if_pos h3,if_pos h3,wts_app,kDw]
   have hw0:=nilPar (parB op 0 (opNd ls 0) false) ((prsT true ls).getD 0 []) ((prsT false ls).getD 0 [])
   have hw1:=nilPar (parB op 1 (opNd ls 1) last) ((prsT true ls).getD 1 []) ((prsT last ls).getD 1 [])
   cases ls with
   | nil =>
    have e:parB op 0 (opNd [] 0) false=false:=by unfold parB kMz opNd;simp
    have e':parB op 1 (opNd [] 1) last=false:=by unfold parB kMz opNd;simp
    rw [e,e']
    simp [parT,prsT,kKz,ownsW]
    omega
   | cons a r =>
    have:=kRw a
    cases r with
    | nil =>
     have e':parB op 1 (opNd [a] 1) last=false:=by unfold parB kMz opNd;simp
     rw [e'] at hw1 ⊢
     simp only [List.map_cons,List.map_nil,List.getD_cons_zero] at g00 g10 hsz
     have e3:parT false ((prsT true [a]).getD 1 []) ((prsT last [a]).getD 1 [])=(prsT last [a]).getD 1 []:=rfl
     rw [e3]
     have e2:wts ((prsT last [a]).getD 1 [])=0:=by simp [prsT,kKz]
     rw [e2]
     omega
    | cons b r =>
     have:=kRw b
     simp only [List.map_cons,List.getD_cons_zero,List.getD_cons_succ] at g00 g01 g10 g12 hsz
     omega
  ·rw [if_neg h3,if_neg h3,kDw,kDw,kDw,kDw]
   have:wt (puT 58)=2:=rfl
   omega
end Go.Proofs.YtkhbpebpljdifaaGreatDoor
namespace Go.PL
open Go.RowKit Go.MapKept
open Go.Maps (Keyed)
structure Upto (S:List Nat) (w w':World):Prop where
 os:w'.os=w.os
 tape:w'.tape=w.tape
 output:w'.output=w.output
 size:w.heap.size≤w'.heap.size
 block:∀k,k<w.heap.size→k∉S→w'.heap[k]?=w.heap[k]?
theorem Upto.refl (S:List Nat) (w:World):Upto S w w:=⟨rfl,rfl,rfl,Nat.le_refl _,fun _ _ _=>rfl⟩
def Within (w:World) (S S':List Nat):Prop:=∀k∈S',k∈S∨w.heap.size≤k
theorem Within.refl (w:World) (S:List Nat):Within w S S:=fun _ h=>Or.inl h
theorem Within.nil (w:World) (S:List Nat):Within w S []:=fun _ h=>by cases h
theorem Upto.trans {S S':List Nat} {a b c:World} (h:Upto S a b) (k:Upto S' b c) (hs:Within a S S'):Upto S a c :=
 ⟨k.os.trans h.os,k.tape.trans h.tape,k.output.trans h.output,Nat.le_trans h.size k.size,fun i hi hn=>by
  refine (k.block i (Nat.lt_of_lt_of_le hi h.size) (fun hm=>?_)).trans (h.block i hi hn)
  rcases hs i hm with h1 | h1
  ·exact hn h1
  ·omega⟩
theorem Upto.trans_same {S:List Nat} {a b c:World} (h:Upto S a b) (k:Upto S b c):Upto S a c:=h.trans k (Within.refl _ _)
theorem Upto.trans_ext {S:List Nat} {a b c:World} (h:Upto S a b) (k:Upto [] b c):Upto S a c:=h.trans k (Within.nil _ _)
theorem Upto.mono {S S':List Nat} {w w':World} (h:Upto S w w') (hs:∀k∈S,k∈S'):Upto S' w w' :=
 ⟨h.os,h.tape,h.output,h.size,fun k hk hn=>h.block k hk (fun hm=>hn (hs k hm))⟩
theorem Upto.drew {S:List Nat} {a w:World} (h:Upto S a w):Upto S a w.drew:=⟨h.os,h.tape,h.output,h.size,h.block⟩
theorem Upto.alloc {S:List Nat} {a w:World} (h:Upto S a w) (o:Obj):Upto S a (w.alloc o) :=
 h.trans_ext ⟨rfl,rfl,rfl,by simp,fun k hk _=>Below.heap_alloc _ _ _ hk⟩
theorem Upto.setCell {S:List Nat} {a w:World} (h:Upto S a w) {p:Addr} (hp:p.block∈S∨a.heap.size≤p.block) (u:Value):Upto S a (w.setCell p u) :=
 h.trans (S':=[p.block]) ⟨rfl,rfl,rfl,by simp [World.setCell],fun k _ hn=>Below.heap_setCell _ _ _ _ (by simpa using hn)⟩ (fun k hk=>by simp at hk;subst hk;exact hp)
theorem Upto.grown {S:List Nat} {a w w':World} {row:Option Nat} (h:Upto S a w) (hg:w.grownBy w' row) (hr:∀k,row=some k→k∈S∨a.heap.size≤k):Upto S a w' :=
 h.trans (S':=row.toList) ⟨hg.os,hg.tape,hg.output,hg.size,fun k hk hn=>hg.block k hk (fun e=>hn (by rw [←e];simp))⟩ (fun k hk=>hr k (by simpa using hk))
theorem Upto.cell {S:List Nat} {w w':World} (h:Upto S w w') {p:Addr} (hp:p.block<w.heap.size) (hn:p.block∉S):w'.cell? p=w.cell? p:=World.cell?_of_block (w:=w) (h.block p.block hp hn)
theorem Upto.below {S:List Nat} {w w':World} (h:Upto S w w') (B:Nat) (hB:B≤w.heap.size) (hs:∀k∈S,B≤k):Below B w w' :=
 ⟨h.os,h.tape,h.output,h.size,fun k hk=>h.block k (by omega) (fun hm=>by have:=hs k hm;omega)⟩
theorem Upto.ext {w w':World} (h:Upto [] w w'):Below w.heap.size w w':=h.below _ (Nat.le_refl _) (by simp)
theorem Upto.of_below {w w':World} (h:Below w.heap.size w w'):Upto [] w w':=⟨h.os,h.tape,h.output,h.size,fun k hk _=>h.block k hk⟩
def MapL (P:Program) (k:TypeId) (w:World) (b:Nat) (L:List (Value×Value)):Prop :=
 ∃es clock,w.heap[b]?=some (.map es clock)∧es.toList.map (fun e=>(e.key,e.val))=L∧∀e∈es.toList,∃l,keyOf P k e.key=some l
section
variable {P:Program} {k:TypeId} {w w':World} {b:Nat} {L:List (Value×Value)}
theorem MapL.of_block (h:MapL P k w b L) (hb:w'.heap[b]?=w.heap[b]?):MapL P k w' b L:=by
 obtain⟨es,c,h1,h2,h3⟩:=h
 exact⟨es,c,hb.trans h1,h2,h3⟩
theorem MapL.lt (h:MapL P k w b L):b<w.heap.size:=by
 obtain⟨es,c,h1,_⟩:=h
 exact (Array.getElem?_eq_some_iff.1 h1).1
theorem MapL.upto {S:List Nat} (h:MapL P k w b L) (hu:Upto S w w') (hn:b∉S):MapL P k w' b L:=h.of_block (hu.block b h.lt hn)
theorem MapL.made (P:Program) (k:TypeId) (w:World):MapL P k (w.alloc (.map #[] 0)) w.heap.size [] :=
 ⟨#[],0,(MapKept.heap_alloc w _).1,rfl,by simp⟩
theorem MapL.look {t e:TypeId} (h:MapL P k w b L) (K:Keyed P k) (ht:P.underlying t=some (.map k e)) {z:Value} (hz:(zeroValue e).run P w=.ok z w) {x:Value} {l:Lit} (hx:keyOf P k x=some l) (c:Bool) :
  ((Instr.lookup t (.map (some b)) x c).run P w=.ok (if c then .tuple #[z,.bool false] else z) w∧∀p∈L,p.1≠x) ∨
  ∃v,(x,v)∈L∧(Instr.lookup t (.map (some b)) x c).run P w=.ok (if c then .tuple #[v,.bool true] else v) w:=by
 obtain⟨es,clock,hb,rfl,hk⟩:=h
 rcases K.find w hx es.toList hk with⟨h1,h2⟩ | ⟨j,e0,h1,h2,h3⟩
 ·refine Or.inl ⟨by simp [Instr.lookup,run_underlying ht,MapKept.run_getObj_map hb,K.check w _ hx,h1,hz,Result.andThen],?_⟩
  intro p hp
  obtain⟨e,he,rfl⟩:=List.mem_map.1 hp
  exact h2 e he
 ·refine Or.inr ⟨e0.val,List.mem_map.2 ⟨e0,List.mem_of_getElem? h2,by rw [h3]⟩,by simp [Instr.lookup,run_underlying ht,MapKept.run_getObj_map hb,K.check w _ hx,h1,Result.andThen]⟩
theorem MapL.insert {t e:TypeId} (h:MapL P k w b L) (K:Keyed P k) (ht:P.underlying t=some (.map k e)) {x v:Value} {l:Lit} (hx:keyOf P k x=some l) (hnew:∀p∈L,p.1≠x) :
  ∃w',(Instr.mapUpdate t (.map (some b)) x v).run P w=.ok () w'∧MapL P k w' b (L++[(x,v)])∧w.grownBy w' (some b):=by
 obtain⟨es,clock,hb,rfl,hk⟩:=h
 rcases K.find w hx es.toList hk with⟨h1,h2⟩ | ⟨j,e0,h1,h2,h3⟩
 ·refine⟨ChangeMaps.setBlock w b (.map (es.push ⟨x,v,clock⟩) (clock+1)),by simp [Instr.mapUpdate,run_underlying ht,MapKept.run_getObj_map hb,K.check w false hx,h1,MapKept.run_setObj_map _ hb,Result.andThen,ChangeMaps.setBlock],?_,?_⟩
  ·refine⟨es.push ⟨x,v,clock⟩,clock+1,ChangeMaps.heap_setBlock_same hb _,by simp,?_⟩
   intro e he
   simp only [Array.toList_push,List.mem_append,List.mem_singleton] at he
   rcases he with he | rfl
   ·exact hk e he
   ·exact⟨l,hx⟩
  ·exact⟨rfl,rfl,rfl,by simp [ChangeMaps.setBlock],fun i _ hi=>ChangeMaps.heap_setBlock_other hb _ (fun e=>hi (by rw [e]))⟩
 ·exact absurd h3 (hnew _ (List.mem_map.2 ⟨e0,List.mem_of_getElem? h2,rfl⟩))
end
section
variable {P:Program} (w:World) {ops:Array Oper} {rest:List Oper} {o:Oper} {a:Act} {Q:Exit→Act→World→Prop}
theorem wpList_insert (hg:o.guard=none) (m x v:Operand) (t:TypeId) (hop:o.op=Op.mapUpdate t m x v)
  (k e:TypeId) (K:Keyed P k) (ht:P.underlying t=some (.map k e)) (b:Nat) (L:List (Value×Value))
  (hm:a.eval m=.map (some b)) (h:MapL P k w b L) (key val:Value) (l:Lit) (hx:a.eval x=key) (hv:a.eval v=val) (hkey:keyOf P k key=some l) (hnew:∀p∈L,p.1≠key)
  (hK:∀w',MapL P k w' b (L++[(key,val)])→w.grownBy w' (some b)→wpList P ops Q rest (a.put o.dst undef) w') :
  wpList P ops Q (o::rest) a w:=by
 refine wpList_plain hg fun K' hK'=>?_
 obtain⟨w',hrun,r1,r2⟩:=h.insert K ht hkey (v:=val) hnew
 unfold Oper.wp
 simp [execOp,hop,hm,hx,hv,hrun,Result.andThen]
 exact hK' _ _ (hK w' r1 r2)
end
theorem keyS {P:Program} {k:TypeId} (hk:P.underlying k=some .string) {s:ByteArray} (hs:s.size≤maxLen):keyOf P k (.string s)=some (.string s.data.toList):=by
 simp [keyOf,hk,mapKey,hs]
theorem kAz {w:World} {p:Nat} {cs:Array Value} {t:TypeId} {z:Nat×Nat} (h:w.heap[p]?=some (.cells cs t z)) (i:Nat):w.cell? ⟨p,i,none⟩=cs[i]?:=by
 simp [World.cell?,h]
theorem kDx {w:World} {p:Nat} {cs:Array Value} {t:TypeId} (h:w.heap[p]?=some (.cells cs t (0,0))) (i:Nat):w.frozen? ⟨p,i,none⟩=false:=by
 simp [World.frozen?,h]
theorem kCw {w:World} {p:Nat} {cs:Array Value} {t:TypeId} {z:Nat×Nat} (h:w.heap[p]?=some (.cells cs t z)) (i:Nat) (v:Value):(w.setCell ⟨p,i,none⟩ v).heap[p]?=some (.cells (cs.setIfInBounds i v) t z):=by
 simp [World.setCell,Array.getElem?_modify,h]
theorem kAk {w:World} {p:Nat} {o:Obj} (h:w.heap[p]?=some o):p<w.heap.size:=(Array.getElem?_eq_some_iff.1 h).1
theorem kCx {w:World} {p:Nat} {o:Obj} (h:w.heap[p]?=some o) (o':Obj):(w.alloc o').heap[p]?=some o:=by
 rw [Below.heap_alloc _ _ _ (kAk h)];exact h
theorem kJj {w:World} {B:Nat} {e:TypeId} {z:Nat} {v:Value} {n:Nat} {xs:List Value} (h:w.ownsRow B e z v n xs):∃a c,v=.slice a n c∧(a=none→n=0):=by
 rcases h.2 with⟨rfl,rfl⟩ | ⟨g,cap,cur,rfl,_⟩
 ·exact⟨none,0,rfl,fun _=>rfl⟩
 ·exact⟨_,cap,rfl,fun h=>by cases h⟩
theorem kOq {w:World} {B:Nat} {e:TypeId} {z:Nat} {v:Value} {n:Nat} {xs:List Value} (h:w.ownsRow B e z v n xs) {g:Nat} (hg:v.ownBlock=some g):∃cur,w.heap[g]?=some (.cells cur e (0,0)):=by
 rcases h.2 with⟨rfl,rfl⟩ | ⟨g',cap,cur,rfl,_,hh,_⟩
 ·cases hg
 ·cases hg
  exact⟨cur,hh⟩
theorem row_ne {w:World} {B:Nat} {e:TypeId} {z:Nat} {v:Value} {n:Nat} {xs:List Value} (h:w.ownsRow B e z v n xs) {g:Nat} (hg:g∈v.ownBlock.toList) {cs:Array Value} {t:TypeId} {fz:Nat×Nat} (hb:w.heap[g]?=some (.cells cs t fz)) (hne:t≠e):False:=by
 obtain⟨cur,hh⟩:=kOq h (Option.mem_toList.1 hg)
 rw [hb] at hh
 injection hh with hh
 injection hh with _ h2
 exact hne h2
theorem ownsRow_of_block {w w':World} {B:Nat} {e:TypeId} {z:Nat} {v:Value} {n:Nat} {xs:List Value} (h:w.ownsRow B e z v n xs) (hb:∀g,v.ownBlock=some g→w'.heap[g]?=w.heap[g]?):w'.ownsRow B e z v n xs:=by
 refine⟨h.1,?_⟩
 rcases h.2 with hn | ⟨g',cap,cur,rfl,h1,hh,r⟩
 ·exact Or.inl hn
 ·exact Or.inr ⟨g',cap,cur,rfl,h1,(hb g' rfl).trans hh,r⟩
theorem kIx {S:List Nat} {w w':World} {B:Nat} {e:TypeId} {z:Nat} {v:Value} {n:Nat} {xs:List Value} (h:w.ownsRow B e z v n xs) (hu:Upto S w w') (hs:∀g,v.ownBlock=some g→g∉S):w'.ownsRow B e z v n xs :=
 ownsRow_of_block h (fun g hg=>by
  obtain⟨cur,hh⟩:=kOq h hg
  exact hu.block g (kAk hh) (hs g hg))
section
variable {P:Program} (w:World)
theorem append_where (t ty e:TypeId) (i:TypeInfo) (z:Value) (size bytes:Nat) (ht:P.underlying t=some (.slice e)) (hi:P.info? e=some i) (hz:i.zero=some z)
  (hsize:i.size=size) (hby:i.bytes=bytes) (v:Value) (n:Nat) (xs:List Value) (hown:w.ownsRow 0 e size v n xs)
  (a:Addr) (m c:Nat) (news:List Value) (hl:news.length=m*size) (hnews:∀j u,news[j]?=some u→w.cell? (a.add j)=some u) (h1:∀u∈news,u.oneCell'=true)
  (h63:n+m≤maxLen) (hbytes:(n+m)*bytes≤140737488355328) {v':Value} {w':World} (hr:(Builtin.append_ #[t,t] ty #[v,.slice (some a) m c]).run P w=.ok v' w') :
  ∀g,v'.ownBlock=some g→v.ownBlock=some g∨w.heap.size≤g:=by
 subst hsize
 subst hby
 have h63':n+m≤9223372036854775807:=by simp only [maxLen] at h63;omega
 rcases hown.2 with⟨rfl,rfl⟩ | ⟨g,cap,cur,rfl,_,hg,hnc,hcm,hcs,htake⟩
 ·by_cases hm:m=0
  ·subst hm
   have hs:(Builtin.append_ #[t,t] ty #[.slice none 0 0,.slice (some a) 0 c]).run P w=.ok (.slice none 0 0) w:=by
    simp [Builtin.append_,run_underlying ht,sizeOf,typeInfo,hi,Builtin.lenOf,Builtin.firstCells,loadCells,loadCellsFrom]
   rw [hs] at hr
   cases hr
   intro g hg
   cases hg
  ·have hs:=run_append_nil (P:=P) w t ty e i z ht hi hz a m c news hl hnews (by omega) (by omega) (by rw [Nat.zero_add] at hbytes;omega)
   rw [hs] at hr
   cases hr
   intro g hg
   cases hg
   exact Or.inr (Nat.le_refl _)
 ·by_cases hroom:n+m≤cap
  ·have hs:=run_append_room (P:=P) w t ty e i ht hi g n cap cur hg a m c news hl hnews h1 hroom (by rw [hl,hcs,←Nat.add_mul];exact Nat.mul_le_mul_right _ hroom)
   rw [hs] at hr
   cases hr
   intro g' hg'
   exact Or.inl hg'
  ·have hs:=run_append_grow (P:=P) w t ty e i z ht hi hz ⟨g,0,none⟩ n cap xs hown.1 (hown.cells (g:=g) rfl) a m c news hl hnews (by omega) (by omega) (growslice_fits (by omega) hbytes)
   rw [hs] at hr
   cases hr
   intro g' hg'
   cases hg'
   exact Or.inr (Nat.le_refl _)
theorem kHk {ops:Array Oper} {rest:List Oper} {o:Oper} {ac:Act} {Q:Exit→Act→World→Prop} (hgd:o.guard=none) (s x:Operand) (t:TypeId)
  (ho:o.op=.call { callee:=.builtin .append,args:=#[s,x],argTypes:=#[t,t] })
  (e:TypeId) (i:TypeInfo) (z:Value) (size bytes:Nat) (ht:P.underlying t=some (.slice e)) (hi:P.info? e=some i) (hz:i.zero=some z)
  (hsize:i.size=size) (hby:i.bytes=bytes) (hzs:z.cells.size=size) (hsz:0<size)
  (v:Value) (n:Nat) (xs:List Value) (hs:ac.eval s=v) (hown:w.ownsRow 0 e size v n xs)
  (a:Addr) (m c:Nat) (news:List Value) (hx:ac.eval x=.slice (some a) m c) (hl:news.length=m*size) (hnews:∀j u,news[j]?=some u→w.cell? (a.add j)=some u) (h1:∀u∈news,u.oneCell'=true)
  (h63:n+m≤maxLen) (hbytes:(n+m)*bytes≤140737488355328)
  (h:∀b' c' w',w'.ownsRow 0 e size (.slice b' (n+m) c') (n+m) (xs++news)→Upto v.ownBlock.toList w w'→(∀g,(Value.slice b' (n+m) c').ownBlock=some g→v.ownBlock=some g∨w.heap.size≤g)→wpList P ops Q rest (ac.put o.dst (.slice b' (n+m) c')) w'):wpList P ops Q (o::rest) ac w:=by
 refine wpList_plain hgd fun K hK=>?_
 obtain⟨v',w',hr,h2,h3,_⟩:=run_append_own (P:=P) w 0 t o.type e i z size bytes ht hi hz hsize hby hzs hsz v n xs hown a m c news hl hnews h1 h63 hbytes (Nat.zero_le _)
 have h4:=append_where w t o.type e i z size bytes ht hi hz hsize hby v n xs hown a m c news hl hnews h1 h63 hbytes hr
 unfold Oper.wp execOp
 simp only [ho,resolve,invoke,builtin,Sem.run_bind,Sem.run_pure,Result.andThen_ok,List.map_toArray,List.map_cons,List.map_nil,hs,hx,hr]
 obtain⟨b',c',rfl,_⟩:=kJj h2
 exact hK _ _ (h b' c' w' h2 ⟨h3.os,h3.tape,h3.output,h3.size,fun k hk hn=>h3.block k hk (fun e=>hn (by rw [←e];simp))⟩ h4)
end
theorem Upto.at {S:List Nat} {w w':World} (h:Upto S w w') {g:Nat} {o:Obj} (hb:w.heap[g]?=some o) (hn:g∉S):w'.heap[g]?=some o:=(h.block g (kAk hb) hn).trans hb
theorem kAq (w:World) (o:Obj):(w.alloc o).heap[w.heap.size]?=some o:=heap_alloc_new w o
theorem kFz (w:World) (o o':Obj):((w.alloc o).alloc o').heap[w.heap.size+1]?=some o':=by
 have:=heap_alloc_new (w.alloc o) o'
 simpa using this
theorem new_at2 (w:World) (o o' o'':Obj):(((w.alloc o).alloc o').alloc o'').heap[w.heap.size+1+1]?=some o'':=by
 have:=heap_alloc_new ((w.alloc o).alloc o') o''
 simpa using this
theorem ret_int {k:IntKind} {a b:Int} (h:a=b):Ending.returned (.int k a)=.returned (.int k b):=by rw [h]
theorem kNx {a b:Bool} (h:a=b):Ending.returned (.bool a)=.returned (.bool b):=by rw [h]
def SlC (w:World) (v:Value) (xs:List Value):Prop :=
 (xs=[]∧∃a c,v=.slice a 0 c)∨∃g o c,v=.slice (some ⟨g,o,none⟩) xs.length c∧∀j u,xs[j]?=some u→w.cell? ⟨g,o+j,none⟩=some u
theorem SlC.len {w:World} {v:Value} {xs:List Value} (h:SlC w v xs):∃a c,v=.slice a xs.length c:=by
 rcases h with⟨rfl,a,c,rfl⟩ | ⟨g,o,c,rfl,_⟩
 ·exact⟨a,c,rfl⟩
 ·exact⟨_,c,rfl⟩
theorem SlC.of_row {w:World} {B:Nat} {e:TypeId} {v:Value} {n:Nat} {xs:List Value} (h:w.ownsRow B e 1 v n xs):SlC w v xs:=by
 rcases h.2 with⟨rfl,rfl⟩ | ⟨g,cap,cur,rfl,_,hh,_,_,_,ht⟩
 ·exact Or.inl ⟨List.eq_nil_of_length_eq_zero (by simpa using h.1),none,0,rfl⟩
 ·refine Or.inr ⟨g,0,cap,by rw [h.1];simp,?_⟩
  intro j u hj
  rw [kAz hh,Nat.zero_add]
  rw [←ht,List.getElem?_take] at hj
  split at hj
  ·simpa using hj
  ·cases hj
theorem SlC.upto {S:List Nat} {w w':World} {v:Value} {xs:List Value} (h:SlC w v xs) (hu:Upto S w w') (hs:∀g o n c,v=.slice (some ⟨g,o,none⟩) n c→xs≠[]→g∉S):SlC w' v xs:=by
 rcases h with h | ⟨g,o,c,rfl,hc⟩
 ·exact Or.inl h
 ·refine Or.inr ⟨g,o,c,rfl,fun j u hj=>?_⟩
  have h1:=hc j u hj
  rw [←h1]
  refine hu.cell ?_ (hs g o _ c rfl (by rintro rfl;cases hj))
  exact World.block_lt_of_cell? w _ h1
theorem SlC.ext {w w':World} {v:Value} {xs:List Value} (h:SlC w v xs) (hu:Upto [] w w'):SlC w' v xs:=h.upto hu (by simp)
section
variable {P:Program} (w:World)
theorem run_append_zero (t ty e:TypeId) (i:TypeInfo) (size:Nat) (ht:P.underlying t=some (.slice e)) (hi:P.info? e=some i)
  (v:Value) (n:Nat) (xs:List Value) (hown:w.ownsRow 0 e size v n xs) (a:Option Addr) (c:Nat) :
  (Builtin.append_ #[t,t] ty #[v,.slice a 0 c]).run P w=.ok v w:=by
 rcases hown.2 with⟨rfl,rfl⟩ | ⟨g,cap,cur,rfl,_,hg,hnc,_⟩
 ·cases a<;>simp [Builtin.append_,run_underlying ht,sizeOf,typeInfo,hi,Builtin.lenOf,Builtin.firstCells,loadCells,loadCellsFrom]
 ·cases a<;>simp [Builtin.append_,run_underlying ht,sizeOf,typeInfo,hi,Builtin.lenOf,Builtin.firstCells,loadCells,loadCellsFrom,hnc,storeCells]
theorem wpList_apps {ops:Array Oper} {rest:List Oper} {o:Oper} {ac:Act} {Q:Exit→Act→World→Prop} (hgd:o.guard=none) (s x:Operand) (t:TypeId)
  (ho:o.op=.call { callee:=.builtin .append,args:=#[s,x],argTypes:=#[t,t] })
  (e:TypeId) (i:TypeInfo) (z:Value) (bytes:Nat) (ht:P.underlying t=some (.slice e)) (hi:P.info? e=some i) (hz:i.zero=some z)
  (hsize:i.size=1) (hby:i.bytes=bytes) (hzs:z.cells.size=1)
  (v:Value) (n:Nat) (xs:List Value) (hs:ac.eval s=v) (hown:w.ownsRow 0 e 1 v n xs)
  (y:Value) (news:List Value) (hx:ac.eval x=y) (hnews:SlC w y news) (h1:∀u∈news,u.oneCell'=true)
  (h63:n+news.length≤maxLen) (hbytes:(n+news.length)*bytes≤140737488355328)
  (h:∀b' c' w',w'.ownsRow 0 e 1 (.slice b' (n+news.length) c') (n+news.length) (xs++news)→Upto v.ownBlock.toList w w'→(∀g,(Value.slice b' (n+news.length) c').ownBlock=some g→v.ownBlock=some g∨w.heap.size≤g)→wpList P ops Q rest (ac.put o.dst (.slice b' (n+news.length) c')) w'):wpList P ops Q (o::rest) ac w:=by
 rcases hnews with⟨rfl,a,c,rfl⟩ | ⟨g,off,c,rfl,hc⟩
 ·refine wpList_plain hgd fun K hK=>?_
  have hr:=run_append_zero (P:=P) w t o.type e i 1 ht hi v n xs hown a c
  unfold Oper.wp execOp
  simp only [ho,resolve,invoke,builtin,Sem.run_bind,Sem.run_pure,Result.andThen_ok,List.map_toArray,List.map_cons,List.map_nil,hs,hx,hr]
  obtain⟨b',c',rfl,_⟩:=kJj hown
  exact hK _ _ (h b' c' w (by simpa using hown) (Upto.refl _ _) (fun g hg=>Or.inl hg))
 ·refine kHk w hgd s x t ho e i z 1 bytes ht hi hz hsize hby hzs (by decide) v n xs hs hown ⟨g,off,none⟩ news.length c news hx (by simp) ?_ h1 h63 hbytes h
  intro j u hj
  have:=hc j u hj
  simpa [Addr.add_lit] using this
end
structure Grew (w w':World) (e:TypeId) (size:Nat) (dst res:Value) (n:Nat) (xs:List Value):Prop where
 row:w'.ownsRow 0 e size res n xs
 up:Upto dst.ownBlock.toList w w'
 own:∀g,res.ownBlock=some g→dst.ownBlock=some g∨w.heap.size≤g
theorem Grew.same {w:World} {e:TypeId} {size:Nat} {v:Value} {n:Nat} {xs:List Value} (h:w.ownsRow 0 e size v n xs):Grew w w e size v v n xs:=⟨h,Upto.refl _ _,fun _ h=>Or.inl h⟩
theorem Grew.trans {w w1 w2:World} {e:TypeId} {size:Nat} {a b c:Value} {n m:Nat} {xs ys:List Value} (h:Grew w w1 e size a b n xs) (k:Grew w1 w2 e size b c m ys):Grew w w2 e size a c m ys:=by
 have hs:=h.up.size
 refine⟨k.row,h.up.trans k.up ?_,fun g hg=>?_⟩
 ·intro g hg
  rcases h.own g (Option.mem_toList.1 hg) with h1 | h1
  ·exact Or.inl (Option.mem_toList.2 h1)
  ·exact Or.inr h1
 ·rcases k.own g hg with h1 | h1
  ·exact h.own g h1
  ·exact Or.inr (by omega)
theorem Grew.before {w w1 w2:World} {e:TypeId} {size:Nat} {a b:Value} {n:Nat} {xs:List Value} (h:Upto [] w w1) (k:Grew w1 w2 e size a b n xs):Grew w w2 e size a b n xs:=by
 have hs:=h.size
 refine⟨k.row,(h.mono (by simp)).trans_same k.up,fun g hg=>?_⟩
 rcases k.own g hg with h1 | h1
 ·exact Or.inl h1
 ·exact Or.inr (by omega)
section
variable {P:Program} (w:World) {o:Oper} {ac:Act} {Q:Exit→Act→World→Prop}
theorem wp_app {K:Act→World→Prop} (s x:Operand) (t:TypeId) (ho:o.op=.call { callee:=.builtin .append,args:=#[s,x],argTypes:=#[t,t] })
  (e:TypeId) (i:TypeInfo) (z:Value) (size bytes:Nat) (ht:P.underlying t=some (.slice e)) (hi:P.info? e=some i) (hz:i.zero=some z)
  (hsize:i.size=size) (hby:i.bytes=bytes) (hzs:z.cells.size=size) (hsz:0<size)
  (v:Value) (n:Nat) (xs:List Value) (hs:ac.eval s=v) (hown:w.ownsRow 0 e size v n xs)
  (a:Addr) (m c:Nat) (news:List Value) (hx:ac.eval x=.slice (some a) m c) (hl:news.length=m*size) (hnews:∀j u,news[j]?=some u→w.cell? (a.add j)=some u) (h1:∀u∈news,u.oneCell'=true)
  (h63:n+m≤maxLen) (hbytes:(n+m)*bytes≤140737488355328)
  (h:∀b' c' w',Grew w w' e size v (.slice b' (n+m) c') (n+m) (xs++news)→K (ac.put o.dst (.slice b' (n+m) c')) w'):o.wp P ac w K Q:=by
 obtain⟨v',w',hr,h2,h3,_⟩:=run_append_own (P:=P) w 0 t o.type e i z size bytes ht hi hz hsize hby hzs hsz v n xs hown a m c news hl hnews h1 h63 hbytes (Nat.zero_le _)
 have h4:=append_where w t o.type e i z size bytes ht hi hz hsize hby v n xs hown a m c news hl hnews h1 h63 hbytes hr
 unfold Oper.wp execOp
 simp only [ho,resolve,invoke,builtin,Sem.run_bind,Sem.run_pure,Result.andThen_ok,List.map_toArray,List.map_cons,List.map_nil,hs,hx,hr]
 obtain⟨b',c',rfl,_⟩:=kJj h2
 exact h b' c' w' ⟨h2,⟨h3.os,h3.tape,h3.output,h3.size,fun k hk hn=>h3.block k hk (fun e=>hn (by rw [←e];simp))⟩,h4⟩
theorem step_app {ops:Array Oper} {K:Act→World→Prop} {E:Prop} (hgd:o.guard=none) (s x:Operand) (t:TypeId) (ho:o.op=.call { callee:=.builtin .append,args:=#[s,x],argTypes:=#[t,t] })
  (e:TypeId) (i:TypeInfo) (z:Value) (size bytes:Nat) (ht:P.underlying t=some (.slice e)) (hi:P.info? e=some i) (hz:i.zero=some z)
  (hsize:i.size=size) (hby:i.bytes=bytes) (hzs:z.cells.size=size) (hsz:0<size)
  (v:Value) (n:Nat) (xs:List Value) (hs:ac.eval s=v) (hown:w.ownsRow 0 e size v n xs)
  (a:Addr) (m c:Nat) (news:List Value) (hx:ac.eval x=.slice (some a) m c) (hl:news.length=m*size) (hnews:∀j u,news[j]?=some u→w.cell? (a.add j)=some u) (h1:∀u∈news,u.oneCell'=true)
  (h63:n+m≤maxLen) (hbytes:(n+m)*bytes≤140737488355328)
  (h:∀b' c' w',Grew w w' e size v (.slice b' (n+m) c') (n+m) (xs++news)→K (ac.put o.dst (.slice b' (n+m) c')) w') :
  if Region.wanted o (yielded ops ac.tmps)=true then Oper.wp P o ac w K Q else E:=by
 have hw:Region.wanted o (yielded ops ac.tmps)=true:=by simp [Region.wanted,hgd]
 rw [if_pos hw]
 exact wp_app w s x t ho e i z size bytes ht hi hz hsize hby hzs hsz v n xs hs hown a m c news hx hl hnews h1 h63 hbytes h
end
theorem one_at {w:World} {B:Nat} {x:Value} {t:TypeId} {fr:Nat×Nat} (hb:w.heap[B]?=some (.cells #[x] t fr)):∀(j:Nat) (u:Value),[x][j]?=some u→w.cell? ((⟨B,0,none⟩:Addr).add j)=some u:=by
 intro j u hj
 match j,hj with
 | 0,hj=>simp at hj;subst hj;simp [Addr.add,kAz hb]
end Go.PL
namespace Go.Proofs.YtkhbpebpljdifaaGreatDoor
open Go.RowKit Go.PL Go.Maps
theorem kKx {w:World} {p:Nat} {a b:Value} {r:List Value} {t:TypeId} {z:Nat×Nat} (h:w.heap[p]?=some (.cells (a::b::r).toArray t z)):w.cell? ⟨p,0,none⟩=some a∧w.cell? ⟨p,1,none⟩=some b :=
 ⟨by simpa using kAz h 0,by simpa using kAz h 1⟩
theorem kRz {w:World} {p:Nat} {cs:Array Value} {t:TypeId} (h:w.heap[p]?=some (.cells cs t (0,0))):w.frozen? ⟨p,0,none⟩=false∧w.frozen? ⟨p,1,none⟩=false :=
 ⟨kDx h 0,kDx h 1⟩
theorem cells5 {w:World} {p:Nat} {a b c d e:Value} {r:List Value} {t:TypeId} {z:Nat×Nat} (h:w.heap[p]?=some (.cells (a::b::c::d::e::r).toArray t z)):w.cell? ⟨p,0,none⟩=some a∧w.cell? ⟨p,1,none⟩=some b∧w.cell? ⟨p,2,none⟩=some c∧w.cell? ⟨p,3,none⟩=some d∧w.cell? ⟨p,4,none⟩=some e :=
 ⟨by simpa using kAz h 0,by simpa using kAz h 1,by simpa using kAz h 2,by simpa using kAz h 3,by simpa using kAz h 4⟩
theorem frees5 {w:World} {p:Nat} {cs:Array Value} {t:TypeId} (h:w.heap[p]?=some (.cells cs t (0,0))):w.frozen? ⟨p,0,none⟩=false∧w.frozen? ⟨p,1,none⟩=false∧w.frozen? ⟨p,2,none⟩=false∧w.frozen? ⟨p,3,none⟩=false∧w.frozen? ⟨p,4,none⟩=false :=
 ⟨kDx h 0,kDx h 1,kDx h 2,kDx h 3,kDx h 4⟩
theorem kAx {w:World} {p:Nat} {a b c d e f:Value} {r:List Value} {t:TypeId} {z:Nat×Nat} (h:w.heap[p]?=some (.cells (a::b::c::d::e::f::r).toArray t z)):w.cell? ⟨p,0,none⟩=some a∧w.cell? ⟨p,1,none⟩=some b∧w.cell? ⟨p,2,none⟩=some c∧w.cell? ⟨p,3,none⟩=some d∧w.cell? ⟨p,4,none⟩=some e∧w.cell? ⟨p,5,none⟩=some f :=
 ⟨by simpa using kAz h 0,by simpa using kAz h 1,by simpa using kAz h 2,by simpa using kAz h 3,by simpa using kAz h 4,by simpa using kAz h 5⟩
theorem kDk {w:World} {p:Nat} {cs:Array Value} {t:TypeId} (h:w.heap[p]?=some (.cells cs t (0,0))):w.frozen? ⟨p,0,none⟩=false∧w.frozen? ⟨p,1,none⟩=false∧w.frozen? ⟨p,2,none⟩=false∧w.frozen? ⟨p,3,none⟩=false∧w.frozen? ⟨p,4,none⟩=false∧w.frozen? ⟨p,5,none⟩=false :=
 ⟨kDx h 0,kDx h 1,kDx h 2,kDx h 3,kDx h 4,kDx h 5⟩
theorem kBw {w:World} {p:Nat} {a b c d e f g:Value} {r:List Value} {t:TypeId} {z:Nat×Nat} (h:w.heap[p]?=some (.cells (a::b::c::d::e::f::g::r).toArray t z)):w.cell? ⟨p,0,none⟩=some a∧w.cell? ⟨p,1,none⟩=some b∧w.cell? ⟨p,2,none⟩=some c∧w.cell? ⟨p,3,none⟩=some d∧w.cell? ⟨p,4,none⟩=some e∧w.cell? ⟨p,5,none⟩=some f∧w.cell? ⟨p,6,none⟩=some g :=
 ⟨by simpa using kAz h 0,by simpa using kAz h 1,by simpa using kAz h 2,by simpa using kAz h 3,by simpa using kAz h 4,by simpa using kAz h 5,by simpa using kAz h 6⟩
theorem kRk {w:World} {p:Nat} {cs:Array Value} {t:TypeId} (h:w.heap[p]?=some (.cells cs t (0,0))):w.frozen? ⟨p,0,none⟩=false∧w.frozen? ⟨p,1,none⟩=false∧w.frozen? ⟨p,2,none⟩=false∧w.frozen? ⟨p,3,none⟩=false∧w.frozen? ⟨p,4,none⟩=false∧w.frozen? ⟨p,5,none⟩=false∧w.frozen? ⟨p,6,none⟩=false :=
 ⟨kDx h 0,kDx h 1,kDx h 2,kDx h 3,kDx h 4,kDx h 5,kDx h 6⟩
theorem kAw {w w':World} {p:Addr} {v:Value} (h:Upto [] w w') (hc:w.cell? p=some v):w'.cell? p=some v:=(h.cell (World.block_lt_of_cell? w _ hc) (by simp)).trans hc
end Go.Proofs.YtkhbpebpljdifaaGreatDoor
namespace Go.PL
open Go.RowKit
def bs (l:List UInt8):ByteArray:=⟨l.toArray⟩
def tkC (t:Tok):List Value:=[.int .i64 t.kind,.string (bs t.text),.int .i64 t.val,.int .i64 t.line,.int .i64 t.col]
def SlN (w:World) (z:Nat) (v:Value) (n:Nat) (xs:List Value):Prop :=
 xs.length=n*z∧((n=0∧∃a c,v=.slice a 0 c)∨∃g o c,v=.slice (some ⟨g,o,none⟩) n c∧∀j u,xs[j]?=some u→w.cell? ⟨g,o+j,none⟩=some u)
theorem SlN.len {w:World} {z:Nat} {v:Value} {n:Nat} {xs:List Value} (h:SlN w z v n xs):∃a c,v=.slice a n c:=by
 rcases h.2 with⟨rfl,a,c,rfl⟩ | ⟨g,o,c,rfl,_⟩
 ·exact⟨a,c,rfl⟩
 ·exact⟨_,c,rfl⟩
theorem SlN.of_row {w:World} {B:Nat} {e:TypeId} {z:Nat} {v:Value} {n:Nat} {xs:List Value} (h:w.ownsRow B e z v n xs):SlN w z v n xs:=by
 refine⟨h.1,?_⟩
 rcases h.2 with⟨rfl,rfl⟩ | ⟨g,cap,cur,rfl,_,hh,_,_,_,ht⟩
 ·exact Or.inl ⟨rfl,none,0,rfl⟩
 ·refine Or.inr ⟨g,0,cap,rfl,fun j u hj=>?_⟩
  rw [kAz hh,Nat.zero_add]
  rw [←ht,List.getElem?_take] at hj
  split at hj
  ·simpa using hj
  ·cases hj
theorem SlN.upto {S:List Nat} {w w':World} {z:Nat} {v:Value} {n:Nat} {xs:List Value} (h:SlN w z v n xs) (hu:Upto S w w') (hs:∀g o n c,v=.slice (some ⟨g,o,none⟩) n c→g∉S):SlN w' z v n xs:=by
 refine⟨h.1,?_⟩
 rcases h.2 with h | ⟨g,o,c,rfl,hc⟩
 ·exact Or.inl h
 ·refine Or.inr ⟨g,o,c,rfl,fun j u hj=>?_⟩
  have h1:=hc j u hj
  rw [←h1]
  exact hu.cell (World.block_lt_of_cell? w _ h1) (hs g o _ c rfl)
theorem SlN.ext {w w':World} {z:Nat} {v:Value} {n:Nat} {xs:List Value} (h:SlN w z v n xs) (hu:Upto [] w w'):SlN w' z v n xs:=h.upto hu (by simp)
theorem flatMap_at {α:Type} (f:α→List Value) (z:Nat) (hz:∀a,(f a).length=z):∀(l:List α) (i j:Nat) (a:α),l[i]?=some a→j<z→(l.flatMap f)[i*z+j]?=(f a)[j]?
 | [],i,j,a,h,_=>by simp at h
 | b::l,0,j,a,h,hj=>by
  simp at h
  subst h
  rw [List.flatMap_cons,Nat.zero_mul,Nat.zero_add,List.getElem?_append_left (by rw [hz];exact hj)]
 | b::l,i+1,j,a,h,hj=>by
  have:=flatMap_at f z hz l i j a (by simpa using h) hj
  rw [List.flatMap_cons,List.getElem?_append_right (by rw [hz,Nat.add_mul];omega),hz,←this]
  congr 1
  rw [Nat.add_mul]
  omega
theorem flatMap_len {α:Type} (f:α→List Value) (z:Nat) (hz:∀a,(f a).length=z) (l:List α):(l.flatMap f).length=l.length*z:=by
 induction l with
 | nil=>simp
 | cons a l ih=>rw [List.flatMap_cons,List.length_append,ih,hz,List.length_cons,Nat.add_mul];omega
def Toks (w:World) (v:Value) (ts:List Tok):Prop:=SlN w 5 v ts.length (ts.flatMap tkC)
theorem Toks.len {w:World} {v:Value} {ts:List Tok} (h:Toks w v ts):∃a c,v=.slice a ts.length c:=SlN.len h
theorem Toks.ext {w w':World} {v:Value} {ts:List Tok} (h:Toks w v ts) (hu:Upto [] w w'):Toks w' v ts:=SlN.ext h hu
theorem Toks.upto {S:List Nat} {w w':World} {v:Value} {ts:List Tok} (h:Toks w v ts) (hu:Upto S w w') (hs:∀g o n c,v=.slice (some ⟨g,o,none⟩) n c→g∉S):Toks w' v ts:=SlN.upto h hu hs
def TokAt (w:World) (g o:Nat) (ts:List Tok):Prop:=∀i t,ts[i]?=some t→w.cell? ⟨g,o+i*5,none⟩=some (.int .i64 t.kind)∧w.cell? ⟨g,o+i*5+1,none⟩=some (.string (bs t.text))∧w.cell? ⟨g,o+i*5+2,none⟩=some (.int .i64 t.val)∧w.cell? ⟨g,o+i*5+3,none⟩=some (.int .i64 t.line)∧w.cell? ⟨g,o+i*5+4,none⟩=some (.int .i64 t.col)
theorem Toks.at {w:World} {v:Value} {ts:List Tok} (h:Toks w v ts):(ts=[]∧∃a c,v=.slice a 0 c)∨∃g o c,v=.slice (some ⟨g,o,none⟩) ts.length c∧TokAt w g o ts:=by
 rcases h.2 with⟨h0,h1⟩ | ⟨g,o,c,h1,hc⟩
 ·exact Or.inl ⟨List.eq_nil_of_length_eq_zero h0,h1⟩
 ·refine Or.inr ⟨g,o,c,h1,fun i t ht=>?_⟩
  have key:∀j u,j<5→(tkC t)[j]?=some u→w.cell? ⟨g,o+(i*5+j),none⟩=some u:=fun j u hj hu=>hc _ _ ((flatMap_at tkC 5 (fun _=>rfl) ts i j t ht hj).trans hu)
  exact⟨key 0 _ (by decide) rfl,key 1 _ (by decide) rfl,key 2 _ (by decide) rfl,key 3 _ (by decide) rfl,key 4 _ (by decide) rfl⟩
theorem Toks.of_row {w:World} {B:Nat} {e:TypeId} {v:Value} {ts:List Tok} (h:w.ownsRow B e 5 v ts.length (ts.flatMap tkC)):Toks w v ts:=SlN.of_row h
theorem TokAt.ext {w w':World} {g o:Nat} {ts:List Tok} (h:TokAt w g o ts) (hu:Upto [] w w'):TokAt w' g o ts:=by
 intro i t ht
 obtain⟨h0,h1,h2,h3,h4⟩:=h i t ht
 have k:∀{p:Addr} {u:Value},w.cell? p=some u→w'.cell? p=some u:=fun hp=>(hu.cell (World.block_lt_of_cell? w _ hp) (by simp)).trans hp
 exact⟨k h0,k h1,k h2,k h3,k h4⟩
theorem toks_snoc (ts:List Tok) (t:Tok):(ts++[t]).flatMap tkC=ts.flatMap tkC++tkC t:=by simp
end Go.PL
namespace Go.PL
open Go.RowKit
def Ext (w:World):Type:={ u:World // Upto [] w u }
instance (w:World):Nonempty (Ext w):=⟨⟨w,Upto.refl _ _⟩⟩
def Ext.w {v:World} (u:Ext v):World:=u.1
theorem Ext.up {v:World} (u:Ext v):Upto [] v u.w:=u.2
def Ext.mk {v u:World} (h:Upto [] v u):Ext v:=⟨u,h⟩
theorem Ext.cell {w:World} (u:Ext w) {p:Addr} {x:Value} (h:w.cell? p=some x):u.w.cell? p=some x:=(u.up.cell (World.block_lt_of_cell? w p h) (by simp)).trans h
end Go.PL
namespace Go.Proofs
open Go.Shelf
def Tryz.lays137_ren:Go.Shelf.Ren:=⟨fun | 137=>77 | 217=>116 | 266=>139 | n=>n,fun | 9=>9 | 5=>5 | 3=>3 | n=>n,fun | n=>n⟩
theorem Tryz.lays137:Go.Proofs.Lays.n137 Tryz.prog Tryz.lays137_ren:={
 mixed:=by kernel_rfl
 f137:=Tryz.func77.trans (congrArg some (by kernel_rfl))
 f217:=Tryz.func116.trans (congrArg some (by kernel_rfl))
 f266:=Tryz.func139.trans (congrArg some (by kernel_rfl))
 t3:=Tryz.underlying3
 a3:=Tryz.isAgg3
 z3:=Tryz.sizeOf3
 v3:=Tryz.zeroValue3
 t5:=Tryz.underlying5
 a5:=Tryz.isAgg5
 z5:=Tryz.sizeOf5
 v5:=Tryz.zeroValue5
 t9:=Tryz.underlying9
 a9:=Tryz.isAgg9
 z9:=Tryz.sizeOf9
 v9:=Tryz.zeroValue9 }
open Go.RowKit in
theorem Tryz.strings_IndexByte (s:ByteArray) (c:Int) (w:World) :
  Calls Tryz.prog 77 #[.string s,.int .u8 c] w fun e w'=>e=.returned (.int .i64 (Lib.indexByte s.data.toList c.toNat.toUInt8))∧w'=w:=Any.strings_IndexByte Tryz.lays137 s c w
def Tryz.laysM157_ren:Go.Shelf.Ren:=⟨fun | 157=>138 | 229=>152 | 199=>153 | 261=>163 | 311=>188 | 312=>189 | n=>n,fun | 9=>9 | 31=>22 | 3=>3 | 5=>5 | 4=>4 | 119=>179 | 0=>0 | 40=>181 | 152=>196 | 21=>21 | 154=>198 | 51=>184 | 141=>200 | 196=>219 | 193=>216 | 198=>221 | 49=>80 | 194=>217 | 201=>224 | 226=>236 | 46=>173 | 227=>237 | n=>n,fun | 0=>4 | 6=>6 | n=>n⟩
theorem Tryz.laysM157:Go.Proofs.LaysM.n157 Tryz.prog Tryz.laysM157_ren:={
 mixed:=by kernel_rfl
 f157:=Tryz.func138.trans (congrArg some (by kernel_rfl))
 f199:=Tryz.func153.trans (congrArg some (by kernel_rfl))
 f229:=Tryz.func152.trans (congrArg some (by kernel_rfl))
 f261:=Tryz.func163.trans (congrArg some (by kernel_rfl))
 f311:=Tryz.func188.trans (congrArg some (by kernel_rfl))
 f312:=Tryz.func189.trans (congrArg some (by kernel_rfl))
 t0:=Tryz.underlying0
 a0:=Tryz.isAgg0
 z0:=Tryz.sizeOf0
 v0:=Tryz.zeroValue0
 t3:=Tryz.underlying3
 a3:=Tryz.isAgg3
 z3:=Tryz.sizeOf3
 v3:=Tryz.zeroValue3
 t4:=Tryz.underlying4
 a4:=Tryz.isAgg4
 z4:=Tryz.sizeOf4
 v4:=Tryz.zeroValue4
 t5:=Tryz.underlying5
 a5:=Tryz.isAgg5
 z5:=Tryz.sizeOf5
 v5:=Tryz.zeroValue5
 t9:=Tryz.underlying9
 a9:=Tryz.isAgg9
 z9:=Tryz.sizeOf9
 v9:=Tryz.zeroValue9
 t21:=Tryz.underlying21
 a21:=Tryz.isAgg21
 z21:=Tryz.sizeOf21
 v21:=Tryz.zeroValue21
 t31:=Tryz.underlying22
 a31:=Tryz.isAgg22
 z31:=Tryz.sizeOf22
 v31:=Tryz.zeroValue22
 t40:=Tryz.underlying181
 a40:=Tryz.isAgg181
 z40:=Tryz.sizeOf181
 v40:=Tryz.zeroValue181
 t46:=Tryz.underlying173
 a46:=Tryz.isAgg173
 z46:=Tryz.sizeOf173
 v46:=Tryz.zeroValue173
 t49:=Tryz.underlying80
 a49:=Tryz.isAgg80
 z49:=Tryz.sizeOf80
 v49:=Tryz.zeroValue80
 t51:=Tryz.underlying184
 a51:=Tryz.isAgg184
 z51:=Tryz.sizeOf184
 v51:=Tryz.zeroValue184
 t119:=Tryz.underlying179
 a119:=Tryz.isAgg179
 z119:=Tryz.sizeOf179
 t141:=Tryz.underlying200
 a141:=Tryz.isAgg200
 z141:=Tryz.sizeOf200
 v141:=Tryz.zeroValue200
 t152:=Tryz.underlying196
 a152:=Tryz.isAgg196
 z152:=Tryz.sizeOf196
 v152:=Tryz.zeroValue196
 t154:=Tryz.underlying198
 a154:=Tryz.isAgg198
 z154:=Tryz.sizeOf198
 v154:=Tryz.zeroValue198
 t193:=Tryz.underlying216
 a193:=Tryz.isAgg216
 z193:=Tryz.sizeOf216
 v193:=Tryz.zeroValue216
 t194:=Tryz.underlying217
 a194:=Tryz.isAgg217
 z194:=Tryz.sizeOf217
 v194:=Tryz.zeroValue217
 t196:=Tryz.underlying219
 a196:=Tryz.isAgg219
 z196:=Tryz.sizeOf219
 v196:=Tryz.zeroValue219
 t198:=Tryz.underlying221
 a198:=Tryz.isAgg221
 z198:=Tryz.sizeOf221
 v198:=Tryz.zeroValue221
 t201:=Tryz.underlying224
 a201:=Tryz.isAgg224
 z201:=Tryz.sizeOf224
 v201:=Tryz.zeroValue224
 t226:=Tryz.underlying236
 a226:=Tryz.isAgg236
 z226:=Tryz.sizeOf236
 v226:=Tryz.zeroValue236
 t227:=Tryz.underlying237
 a227:=Tryz.isAgg237
 z227:=Tryz.sizeOf237
 v227:=Tryz.zeroValue237
 g0:=by kernel_rfl
 g6:=by kernel_rfl
 i0:=by kernel_rfl
 i3:=by kernel_rfl
 i4:=by kernel_rfl
 i5:=by kernel_rfl
 i9:=by kernel_rfl
 i21:=by kernel_rfl
 i31:=by kernel_rfl
 i40:=by kernel_rfl
 i46:=by kernel_rfl
 i49:=by kernel_rfl
 i51:=by kernel_rfl
 i141:=by kernel_rfl
 i152:=by kernel_rfl
 i154:=by kernel_rfl
 i193:=by kernel_rfl
 i194:=by kernel_rfl
 i196:=by kernel_rfl
 i198:=by kernel_rfl
 i201:=by kernel_rfl
 i226:=by kernel_rfl
 i227:=by kernel_rfl
 m0:=by kernel_rfl
 m6:=by kernel_rfl }
open Go.RowKit Go.Lib in
theorem Tryz.strings_Fields_laid (s:ByteArray) (w:World) (hs:s.size<4294967281) (hascii:∀(j:Nat) b,s.data.toList[j]?=some b→b.toNat<128) (htab:Lib.TabIs Tryz.prog w "strings.asciiSpace" .u8 Lib.asciiSpaceTab) :
  Calls Tryz.prog 138 #[.string s] w fun e w' =>
   e=.returned (.slice (some ⟨w.heap.size,0,none⟩) (Lib.fields s.data.toList).length (Lib.fields s.data.toList).length)∧w'=w.alloc (.cells ((Lib.fields s.data.toList).map fun l=>Value.string ⟨l.toArray⟩).toArray 9):=Any.strings_Fields_laid Tryz.laysM157 s w hs hascii htab
end Go.Proofs
namespace Go.Proofs.YtkhbpebpljdifaaGreatDoor
open Go.RowKit Go.PL Go.Maps
theorem digit_calls (b:UInt8) (w:World):Calls Tryz.prog 118 #[.int .u8 b.toNat] w fun e w'=>e=.returned (.bool (kHz b))∧w'=w:=by
 have h:=Lib.hid (show kHz b=(decide (48≤b.toNat)&&decide (b.toNat≤57)) from rfl)
 generalize kHz b=r at *
 generalize b.toNat=n at *
 go_enter Tryz.func118,Tryz.ntmps118
 go_wp2
 all_goals
  go_ret
  refine⟨kNx ?_,rfl⟩
  rw [h.out,Bool.eq_iff_iff]
  simp only [Bool.and_eq_true,decide_eq_true_eq,Bool.false_eq_true,false_iff,not_and]
  omega
theorem letter_calls (b:UInt8) (w:World):Calls Tryz.prog 117 #[.int .u8 b.toNat] w fun e w'=>e=.returned (.bool (kPq b))∧w'=w:=by
 have h:=Lib.hid (show kPq b=((decide (97≤b.toNat)&&decide (b.toNat≤122))||(decide (65≤b.toNat)&&decide (b.toNat≤90))) from rfl)
 generalize kPq b=r at *
 generalize b.toNat=n at *
 go_enter Tryz.func117,Tryz.ntmps117
 go_wp2
 all_goals
  go_ret
  refine⟨kNx ?_,rfl⟩
  rw [h.out,Bool.eq_iff_iff]
  simp only [Bool.and_eq_true,Bool.or_eq_true,decide_eq_true_eq,Bool.false_eq_true,true_iff,false_iff,not_and,not_or]
  omega
theorem digitR_calls (b:UInt8) (w:World):Calls Tryz.prog 129 #[.int .u8 b.toNat] w fun e w'=>e=.returned (.bool (kHz b))∧w'=w:=by
 have h:=Lib.hid (show kHz b=(decide (48≤b.toNat)&&decide (b.toNat≤57)) from rfl)
 generalize kHz b=r at *
 generalize b.toNat=n at *
 go_enter Tryz.func129,Tryz.ntmps129
 go_wp2
 all_goals
  go_ret
  refine⟨kNx ?_,rfl⟩
  rw [h.out,Bool.eq_iff_iff]
  simp only [Bool.and_eq_true,decide_eq_true_eq,Bool.false_eq_true,false_iff,not_and]
  omega
theorem letterR_calls (b:UInt8) (w:World):Calls Tryz.prog 131 #[.int .u8 b.toNat] w fun e w'=>e=.returned (.bool (kPq b))∧w'=w:=by
 have h:=Lib.hid (show kPq b=((decide (97≤b.toNat)&&decide (b.toNat≤122))||(decide (65≤b.toNat)&&decide (b.toNat≤90))) from rfl)
 generalize kPq b=r at *
 generalize b.toNat=n at *
 go_enter Tryz.func131,Tryz.ntmps131
 go_wp2
 all_goals
  go_ret
  refine⟨kNx ?_,rfl⟩
  rw [h.out,Bool.eq_iff_iff]
  simp only [Bool.and_eq_true,Bool.or_eq_true,decide_eq_true_eq,Bool.false_eq_true,true_iff,false_iff,not_and,not_or]
  omega
theorem inner_calls (b:UInt8) (w:World):Calls Tryz.prog 78 #[.int .u8 b.toNat] w fun e w'=>e=.returned (.bool (kDq b))∧w'=w:=by
 have HL:=Lib.hid letter_calls
 have HD:=Lib.hid digit_calls
 have h:=Lib.hid (show kDq b=(kPq b||kHz b||decide (b.toNat=39)) from rfl)
 go_enter Tryz.func78,Tryz.ntmps78
 go_wp2_with fail
 refine (HL.out _ _).mono ?_
 rintro e w1 ⟨rfl,rfl⟩
 cases hl:kPq b with
 | true =>
  go_wp2_with fail
  go_ret
  refine⟨kNx ?_,rfl⟩
  rw [h.out,hl]
  rfl
 | false =>
  go_wp2_with fail
  refine (HD.out _ _).mono ?_
  rintro e w1 ⟨rfl,rfl⟩
  cases hd:kHz b with
  | true =>
   go_wp2_with fail
   go_ret
   refine⟨kNx ?_,rfl⟩
   rw [h.out,hl,hd]
   rfl
  | false =>
   go_wp2_with fail
   go_ret
   refine⟨kNx ?_,rfl⟩
   rw [h.out,hl,hd,Bool.eq_iff_iff]
   simp only [Bool.false_or,decide_eq_true_eq,beq_iff_eq]
   omega
theorem innerR_calls (b:UInt8) (w:World):Calls Tryz.prog 128 #[.int .u8 b.toNat] w fun e w'=>e=.returned (.bool (kDq b))∧w'=w:=by
 have HL:=Lib.hid letterR_calls
 have HD:=Lib.hid digitR_calls
 have h:=Lib.hid (show kDq b=(kPq b||kHz b||decide (b.toNat=39)) from rfl)
 go_enter Tryz.func128,Tryz.ntmps128
 go_wp2_with fail
 refine (HL.out _ _).mono ?_
 rintro e w1 ⟨rfl,rfl⟩
 cases hl:kPq b with
 | true =>
  go_wp2_with fail
  go_ret
  refine⟨kNx ?_,rfl⟩
  rw [h.out,hl]
  rfl
 | false =>
  go_wp2_with fail
  refine (HD.out _ _).mono ?_
  rintro e w1 ⟨rfl,rfl⟩
  cases hd:kHz b with
  | true =>
   go_wp2_with fail
   go_ret
   refine⟨kNx ?_,rfl⟩
   rw [h.out,hl,hd]
   rfl
  | false =>
   go_wp2_with fail
   go_ret
   refine⟨kNx ?_,rfl⟩
   rw [h.out,hl,hd,Bool.eq_iff_iff]
   simp only [Bool.false_or,decide_eq_true_eq,beq_iff_eq]
   omega
theorem byte_back (b:UInt8):(b.toNat:Int).toNat.toUInt8=b:=by simp
theorem contains_idx (l:List UInt8) (b:UInt8):decide (0≤Go.Lib.indexByte l b)=l.contains b:=by
 induction l with
 | nil=>rfl
 | cons c l ih =>
  have hge:=Go.Lib.indexByte_ge l b
  rw [List.contains_cons,←ih,Go.Lib.indexByte]
  by_cases h:c=b
  ·subst h;simp
  ·have h2:(b==c)=false:=by simp;exact fun e=>h e.symm
   have h1:(c==b)=false:=by simp [h]
   rw [h1,h2,Bool.false_or,if_neg (by simp)]
   by_cases h3:Go.Lib.indexByte l b=-1
   ·rw [h3];rfl
   ·rw [if_neg (by simpa using h3),Bool.eq_iff_iff,decide_eq_true_eq,decide_eq_true_eq]
    omega
theorem idx_blank (b:UInt8):decide (0≤Go.Lib.indexByte [9,10,13,32] b)=kOx b:=by
 rw [contains_idx,Bool.eq_iff_iff]
 simp only [kOx,List.contains_iff_mem,List.mem_cons,List.not_mem_nil,or_false,Bool.or_eq_true,decide_eq_true_eq,←UInt8.toNat_inj]
 simp
 omega
theorem idx_mark (b:UInt8):decide (0≤Go.Lib.indexByte [61,40,41,44,58,59] b)=kXx b:=by
 rw [contains_idx,Bool.eq_iff_iff]
 simp only [kXx,List.contains_iff_mem,List.mem_cons,List.not_mem_nil,or_false,Bool.or_eq_true,decide_eq_true_eq,←UInt8.toNat_inj]
 simp
 omega
theorem blank_calls (b:UInt8) (w:World):Calls Tryz.prog 76 #[.int .u8 b.toNat] w fun e w'=>e=.returned (.bool (kOx b))∧w'=w:=by
 have HI:=Lib.hid (Tryz.strings_IndexByte ⟨#[9,10,13,32]⟩ b.toNat)
 have h:=Lib.hid (idx_blank b)
 have hb:=Lib.hid (byte_back b)
 go_enter Tryz.func76,Tryz.ntmps76
 go_wp2_with fail
 refine (HI.out _).mono ?_
 rintro e w1 ⟨rfl,rfl⟩
 rw [hb.out]
 generalize Go.Lib.indexByte [9,10,13,32] b=k at *
 go_wp2
 go_ret
 exact⟨kNx h.out,rfl⟩
theorem kMq {P:Program} {f:FuncId} {fn:Func} {c:Code} (hf:P.funcs[f]?=some fn) (hname:(fn.name== "runtime.NumGoroutine")=false) (hb:fn.body=some c) (args:Array Value) (w:World):(callFunc f args).run P w=.ok (.enter f args) w:=by
 have h1:fn.name≠ "runtime.NumGoroutine":=by simpa using hname
 simp [callFunc,hf,h1,hb]
theorem str_at {s:List UInt8} {k:Nat} {b:UInt8} (h:s[k]?=some b):∀(hk:k<(ByteArray.mk s.toArray).size),(ByteArray.mk s.toArray)[k]'hk=b:=by
 intro hk
 obtain⟨h1,h2⟩:=List.getElem?_eq_some_iff.1 h
 rw [←h2]
 rfl
theorem take_step {p:UInt8→Bool} {s:List UInt8} {k:Nat} {b:UInt8} (h:s[k]?=some b) (hp:p b=true):((s.drop k).takeWhile p).length=1+((s.drop (k+1)).takeWhile p).length:=by
 obtain⟨h1,h2⟩:=List.getElem?_eq_some_iff.1 h
 rw [List.drop_eq_getElem_cons h1,h2,List.takeWhile_cons,if_pos hp,List.length_cons]
 omega
theorem take_stop {p:UInt8→Bool} {s:List UInt8} {k:Nat} {b:UInt8} (h:s[k]?=some b) (hp:p b=false):((s.drop k).takeWhile p).length=0:=by
 obtain⟨h1,h2⟩:=List.getElem?_eq_some_iff.1 h
 rw [List.drop_eq_getElem_cons h1,h2,List.takeWhile_cons,if_neg (by simp [hp])]
 rfl
theorem cut_calls (N:FuncId) (p:UInt8→Bool) (hc:∀args w,(callFunc N args).run Tryz.prog w=.ok (.enter N args) w) (hN:∀(b:UInt8) (w:World),Calls Tryz.prog N #[.int .u8 b.toNat] w fun e w'=>e=.returned (.bool (p b))∧w'=w) (s:List UInt8) (hl:s.length≤4611686018427387904) (w:World) :
  Calls Tryz.prog 79 #[.string ⟨s.toArray⟩,.func (.func N) #[] #[]] w fun e w'=>e=.returned (.int .i64 (s.takeWhile p).length)∧w'=w:=by
 have HN:=Lib.hid hN
 have hsz:(ByteArray.mk s.toArray).size=s.length:=rfl
 clear hN
 go_enter Tryz.func79,Tryz.ntmps79
 go_wp2_with fail
 go_loopw [5] (fun i wr=>∃k:Nat,k≤s.length∧i=.int .i64 k∧(s.takeWhile p).length=k+((s.drop k).takeWhile p).length∧wr=w) (fun i _=>s.length-(intOf i).toNat)
 case atStart=>exact⟨0,Nat.zero_le _,rfl,by simp,rfl⟩
 case round =>
  obtain⟨k,hk,rfl,he,rfl⟩:=hrel
  have HE:=Lib.hid he
  clear he
  rcases Nat.lt_or_ge k s.length with hlt | hge
  ·obtain⟨b,hb⟩:∃b,s[k]?=some b:=⟨s[k],List.getElem?_eq_getElem hlt⟩
   have hat:=str_at hb
   have HB:=Lib.hid hb
   clear hb
   have hlt':(k:Int)<s.length:=by omega
   go_wp2_with fail
   refine (HN.out _ _).mono ?_
   rintro e w1 ⟨rfl,rfl⟩
   cases hp:p b with
   | true =>
    go_wp2_with fail
    go_roundw
    case rel=>exact⟨k+1,by omega,by go_num,by rw [HE.out,take_step HB.out hp];omega,trivial⟩
    case measure=>simp [intOf];omega
   | false =>
    go_wp2_with fail
    go_ret
    refine⟨ret_int ?_,rfl⟩
    rw [HE.out,take_stop HB.out hp]
    omega
  ·have hge':¬(k:Int)<s.length:=by omega
   go_wp2_with fail
   go_ret
   refine⟨ret_int ?_,rfl⟩
   rw [HE.out,List.drop_eq_nil_of_le hge]
   simp
end Go.Proofs.YtkhbpebpljdifaaGreatDoor
