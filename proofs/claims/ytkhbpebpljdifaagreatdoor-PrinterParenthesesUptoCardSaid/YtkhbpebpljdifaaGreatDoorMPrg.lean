/- Merged texts. -/
import Derived.Test.YtkhbpebpljdifaaGreatDoorMPrf
import Derived.Test.YtkhbpebpljdifaaGreatDoorCards
import Derived.Test.YtkhbpebpljdifaaGreatDoorTie
import Derived.ProofKit
import Derived.OpenShut
import Derived.Deep.DeepHandedRow
import Derived.Deep.Slices
import Derived.Lay
import Derived.ChangeCalls
import Derived.LaidSub
import Derived.MakeChecks
import Derived.LaidLaws
import Derived.Lib.LaidTab
import Derived.Shelf.Strings.Repeat
import Derived.Lib.Builder
import Derived.Lib.AppendStr
import Derived.Laws.Externs
set_option maxRecDepth 100000
set_option maxHeartbeats 25600000
namespace Go.Proofs.YtkhbpebpljdifaaGreatDoor
open Go.ChangeShapes Go.WideShapes Go.ChangeAt Go.RowKit Go.PL Go.Deep
theorem own:ownKnob Tryz.prog.godebug=none:=by kernel_rfl
theorem laidOut:laidOutB Tryz.prog=true:=by kernel_rfl
section
variable {H:Type} {enc:TypeId×Value→H} {W:World}
theorem args_stay {P:Program} (hP:laidOutB P=true) {W':World} (hb:Below W.heap.size W W'):∀{ts:List TypeId} {vs:List Value} {ds:List (DataW H)} {ps:List MemPlace},(ts.all fun t=>P.readableRec t&&decide (t<P.types.size))=true →
  DataW.TrodAll enc P W 0 (fun _=>true) true ts vs ds ps→(∀x∈ps,x.block<W.heap.size)→DataW.TrodAll enc P W' 0 (fun b=>decide (b<W.heap.size)) true ts vs ds ps
 | [],vs,ds,ps,_,h,_=>by
  obtain⟨rfl,rfl,rfl⟩:=trodAll_nil h
  exact trodAll_mk0
 | t::ts,vs,ds,ps,ht,h,hlt=>by
  obtain⟨v0,vs0,d0,ds0,p0,q0,rfl,rfl,rfl,h0,r0⟩:=trodAll_cons h
  simp only [List.all_cons,Bool.and_eq_true,decide_eq_true_eq] at ht
  exact trodAll_cons_mk (Below.trod hP ht.1.1 ht.1.2 h0 hb (fun x hx=>hlt x (List.mem_append_left _ hx))) (args_stay hP hb (by simpa using ht.2) r0 (fun x hx=>hlt x (List.mem_append_right _ hx)))
theorem post_true {fn:Func} {spec:ChangeSpec} (hv:spec.vars=[]) (hr:fn.resultTypes.toList=[4]) (hs:fn.resultTypes.size=1) (hts:(fn.params.toList.all fun t=>Tryz.prog.readableRec t&&decide (t<Tryz.prog.types.size))=true)
  {args:Array Value} {ds gs:List (DataW H)} {before:List MemPlace} (hW:DataW.Whole enc Tryz.prog fn.params.toList spec.vars false W args.toList ds gs before) (hfn:ds.length=fn.params.toList.length→spec.fn H ds={ results:=[.lit (.bool true)],args:=ds })
  {W':World} (hu:Upto [] W W'):spec.post enc Tryz.prog fn false true false false W args (.bool true) W':=by
 have hW':=hW
 obtain⟨p,q,hA,hV,rfl,_,_⟩:=hW
 rw [hv] at hV
 obtain⟨rfl,rfl⟩:=trodVars_none hV
 have hb:Below W.heap.size W W':=Upto.ext hu
 have hlt:∀x∈p,x.block<W.heap.size:=fun x hx=>by simpa using hW'.lt x (List.mem_append_left _ hx)
 have hn:ds.length=fn.params.toList.length:=(Go.trodAll_length hA).2
 refine⟨ds,[],_,[],p,[],hW',?_,?_,?_,hb.frame _,fun h=>by cases h⟩
 ·rw [List.append_nil,hfn hn,hr,hs]
  exact trodAll_cons_mk (shut_bool Tryz.underlying4 _) trodAll_mk0
 ·rw [List.append_nil,hfn hn]
  exact args_stay laidOut hb hts hA hlt
 ·rw [List.append_nil,hfn hn,hv]
  rfl
end
end Go.Proofs.YtkhbpebpljdifaaGreatDoor
namespace Go.Proofs.YtkhbpebpljdifaaGreatDoor
open Go.RowKit Go.PL Go.Maps
open Go.ChangeShapes Go.WideShapes Go.ChangeAt Go.Deep
def pwordL:List (List UInt8):=[[],[],[61],[105,110],[115,117,98],[97,100,106],[111,110],[],[],[],[],[110,111,116],[97,110,100],[111,114],[105,109,112,108,105,101,115],[105,102,102],[115,111,109,101],[101,118,101,114,121]]
def tightL:List Int:=[0,0,0,0,0,0,0,0,0,0,0,5,4,3,2,1,5,5]
structure FEnv (w:World):Prop where
 at_:∀k:Nat,k<18→w.cell? ⟨2,k*4,none⟩=some (.int .i64 ((hasF k).1:Nat))∧w.cell? ⟨2,k*4+1,none⟩=some (.int .i64 ((hasF k).2.1:Nat))∧w.cell? ⟨2,k*4+2,none⟩=some (.int .i64 ((hasF k).2.2:Nat))∧w.cell? ⟨2,k*4+3,none⟩=some (.bool (decide (16≤k)))
structure PEnv (w:World):Prop where
 word:∀(k:Nat) x,pwordL[k]?=some x→w.cell? ⟨1,k,none⟩=some (.string ⟨x.toArray⟩)
 tight:∀(k:Nat) x,tightL[k]?=some x→w.cell? ⟨3,k,none⟩=some (.int .i64 x)
theorem FEnv.ext {w w':World} (h:FEnv w) (hu:Upto [] w w'):FEnv w':=⟨fun k hk=>by
 obtain⟨h0,h1,h2,h3⟩:=h.at_ k hk
 have up:∀{p:Addr} {u:Value},w.cell? p=some u→w'.cell? p=some u:=fun hp=>(hu.cell (World.block_lt_of_cell? w _ hp) (by simp)).trans hp
 exact⟨up h0,up h1,up h2,up h3⟩⟩
theorem PEnv.ext {w w':World} (h:PEnv w) (hu:Upto [] w w'):PEnv w':=by
 have up:∀{p:Addr} {u:Value},w.cell? p=some u→w'.cell? p=some u:=fun hp=>(hu.cell (World.block_lt_of_cell? w _ hp) (by simp)).trans hp
 exact⟨fun k x h1=>up (h.word k x h1),fun k x h1=>up (h.tight k x h1)⟩
theorem str_of {H:Type} {enc:TypeId×Value→H} {W:World} {sp:Nat→Bool} {held:Bool} {m:Nat} {v:Value} {bs:List UInt8} {p:List MemPlace} {b:Nat} (h:DataW.trod enc Tryz.prog W b sp held m 9 [v]=some (.lit (.string bs),p)):v=.string ⟨bs.toArray⟩:=by
 obtain⟨s,h1,h2,-⟩:=DataW.trod_string Tryz.underlying9 h
 obtain rfl:v=.string s:=by simpa using h1
 have h3:bs=s.data.toList:=by simpa using (congrArg Prod.fst h2)
 cases s
 rw [h3]
theorem int_of {H:Type} {enc:TypeId×Value→H} {W:World} {sp:Nat→Bool} {held:Bool} {m:Nat} {v:Value} {k:Int} {p:List MemPlace} {b:Nat} (h:DataW.trod enc Tryz.prog W b sp held m 3 [v]=some (.lit (.int .i64 k),p)):v=.int .i64 k:=by
 obtain⟨s,h1,h2,-⟩:=DataW.trod_int Tryz.underlying3 h
 obtain rfl:v=.int .i64 s:=by simpa using h1
 have h3:k=s:=by simpa using (congrArg Prod.fst h2)
 rw [h3]
theorem bool_of {H:Type} {enc:TypeId×Value→H} {W:World} {sp:Nat→Bool} {held:Bool} {m:Nat} {v:Value} {k:Bool} {p:List MemPlace} {b:Nat} (h:DataW.trod enc Tryz.prog W b sp held m 4 [v]=some (.lit (.bool k),p)):v=.bool k:=by
 obtain⟨s,h1,h2⟩:=DataW.trod_bool Tryz.underlying4 h
 obtain rfl:v=.bool s:=by simpa using h1
 have h3:k=s:=by simpa using (congrArg Prod.fst h2)
 rw [h3]
theorem arr_of {W:World} {L:List (String×DataW Unit)} {name:String} {ds:List (DataW Unit)} {g t e n z:Nat} (hg':Tryz.prog.globalNamed name=some g) (ht':(Tryz.prog.globals[g]?).map (·.type)=some t) (hu:Tryz.prog.underlying t=some (.array n e)) (hz:Tryz.prog.cellsOf e=z) (hc:Tryz.prog.cellsOf t=n*z)
  (h:laidMet Tryz.prog L W) (hf:L.filter (fun x=>x.1==name)=[(name,.agg ds)]):∃cs:Array Value,(∀i,W.cell? ⟨g,i,none⟩=cs[i]?)∧cs.size=n*z∧∀i d,ds[i]?=some d→∃(enc:TypeId×Value→Unit) (b:Nat) (sp:Nat→Bool) (held:Bool) (m:Nat) (p:List MemPlace),DataW.trod enc Tryz.prog W b sp held m e ((cs.toList.drop (i*z)).take z)=some (d,p):=by
 have h1:=h.filter (fun x=>x.1==name)
 rw [hf] at h1
 obtain⟨ps,⟨g,t,cs,fuel,p,q,hg,ht,hvar,hd,_,_⟩,_⟩:=h1
 obtain rfl:=Option.some.inj (hg'.symm.trans hg)
 obtain rfl:=Option.some.inj (ht'.symm.trans ht)
 obtain⟨xs,m,_,hx,hlen,hxl,hxi⟩:=DataW.trod_array hu hd
 rw [hc] at hlen
 rw [hz] at hxi
 refine⟨cs,World.var?_cell hg hvar,by simpa using hlen,fun i d hi=>?_⟩
 have h2:=(Prod.mk.inj hx).1
 have h3:ds=xs.map (·.1):=DataW.agg.inj h2
 rw [h3,List.getElem?_map] at hi
 cases hq:xs[i]? with
 | none=>rw [hq] at hi;cases hi
 | some y =>
  rw [hq] at hi
  have hin:i<n:=by
   have:=(List.getElem?_eq_some_iff.1 hq).1
   omega
  have h4:=hxi i hin
  rw [hq] at h4
  obtain⟨y1,y2⟩:=y
  have:y1=d:=by simpa using hi
  subst this
  exact⟨_,_,_,_,_,y2,h4⟩
theorem take_one {α:Type} (l:List α) (i:Nat) (v:α) (h:l[i]?=some v):(l.drop (i*1)).take 1=[v]:=by
 rw [Nat.mul_one]
 obtain⟨hl,rfl⟩:=List.getElem?_eq_some_iff.1 h
 rw [List.drop_eq_getElem_cons hl]
 rfl
theorem one_at {W:World} {g n:Nat} {cs:Array Value} {i:Nat} {_R:Value→Prop} {u:Value} (h1:∀i,W.cell? ⟨g,i,none⟩=cs[i]?) (h2:cs.size=n*1) (hi:i<n) (h3:∀v,(cs.toList.drop (i*1)).take 1=[v]→v=u):W.cell? ⟨g,i,none⟩=some u:=by
 have hil:i<cs.toList.length:=by simp;omega
 have:=h3 cs.toList[i] (take_one _ _ _ (List.getElem?_eq_getElem hil))
 rw [h1 i,←this]
 simp at hil
 simp [hil]
section
variable {W:World} {L:List (String×DataW Unit)}
theorem senv_of (h:laidMet Tryz.prog L W) (hf:L.filter (fun x=>x.1== "palmette/formula.sorts")=[("palmette/formula.sorts",Rows.laid_palmette_formula_sorts)]):SEnv W:=by
 obtain⟨cs,h1,h2,h3⟩:=arr_of (g:=0) (t:=97) (n:=4) (e:=9) (z:=1) (by kernel_rfl) (by kernel_rfl) Tryz.underlying97 (by kernel_rfl) (by kernel_rfl) h hf
 have key:∀(i:Nat) (bs:List UInt8),i<4→([.lit (.string [118,101,114,116,101,120]),.lit (.string [101,100,103,101]),.lit (.string [115,101,116]),.lit (.string [101,100,103,101,115])]:List (DataW Unit))[i]?=some (.lit (.string bs))→W.cell? ⟨0,i,none⟩=some (.string ⟨bs.toArray⟩):=by
  intro i bs hi hb
  obtain⟨enc,b0,sp,held,m,p,h4⟩:=h3 i _ hb
  exact one_at (_R:=fun _=>True) h1 h2 hi (fun v hv=>by rw [hv] at h4;exact str_of h4)
 exact⟨key 0 _ (by omega) rfl,key 1 _ (by omega) rfl,key 2 _ (by omega) rfl,key 3 _ (by omega) rfl⟩
theorem env_of (h:laidMet Tryz.prog L W) (hf:L.filter (fun x=>x.1== "strings.asciiSpace")=[("strings.asciiSpace",Lib.tabData .u8 Lib.asciiSpaceTab)]) (hf2:L.filter (fun x=>x.1== "strconv.ErrRange")=[("strconv.ErrRange",Rows.laid_strconv_ErrRange)]):Env W:=by
 refine⟨?_,?_⟩
 ·have h1:=h.filter (fun x=>x.1== "strings.asciiSpace")
  rw [hf] at h1
  exact Lib.tabIs_of_head (g:=4) (by kernel_rfl) (by kernel_rfl) (t:=179) Tryz.underlying179 Tryz.underlying5 (by kernel_rfl) (by kernel_rfl) h1
 ·have h1:=h.filter (fun x=>x.1== "strconv.ErrRange")
  rw [hf2] at h1
  obtain⟨ps,⟨g,t,cs,fuel,p,q,hg,ht,hvar,hd,_,_⟩,_⟩:=h1
  obtain rfl:g=8:=(Option.some.inj ((show Tryz.prog.globalNamed "strconv.ErrRange"=some 8 by kernel_rfl).symm.trans hg)).symm
  obtain rfl:t=119:=(Option.some.inj ((show (Tryz.prog.globals[8]?).map (·.type)=some 119 by kernel_rfl).symm.trans ht)).symm
  obtain⟨f,u,v,hcs,-,-⟩:=iface_of_trod Tryz.underlying119 hd
  refine⟨u,v,?_⟩
  have:=World.var?_cell hg hvar 0
  rw [this]
  have h2:cs=#[.iface u v]:=by cases cs;simp_all
  rw [h2]
  rfl
theorem fenv_of (h:laidMet Tryz.prog L W) (hf:L.filter (fun x=>x.1== "palmette/formula.forms")=[("palmette/formula.forms",Rows.laid_palmette_formula_forms)]):FEnv W:=by
 obtain⟨cs,h1,h2,h3⟩:=arr_of (g:=2) (t:=160) (n:=18) (e:=159) (z:=4) (by kernel_rfl) (by kernel_rfl) Tryz.underlying160 (by kernel_rfl) (by kernel_rfl) h hf
 refine⟨fun k hk=>?_⟩
 obtain⟨ds,hds,hfm⟩:∃ds:List (DataW Unit),Rows.laid_palmette_formula_forms=.agg ds∧∀k<18,ds[k]?=some (.agg [.lit (.int .i64 ((hasF k).1:Nat)),.lit (.int .i64 ((hasF k).2.1:Nat)),.lit (.int .i64 ((hasF k).2.2:Nat)),.lit (.bool (decide (16≤k)))]):=by
  refine⟨_,rfl,fun k hk=>?_⟩
  have hk18:k=0∨k=1∨k=2∨k=3∨k=4∨k=5∨k=6∨k=7∨k=8∨k=9∨k=10∨k=11∨k=12∨k=13∨k=14∨k=15∨k=16∨k=17:=by omega
  rcases hk18 with rfl | rfl | rfl | rfl | rfl | rfl | rfl | rfl | rfl | rfl | rfl | rfl | rfl | rfl | rfl | rfl | rfl | rfl<;>rfl
 obtain⟨enc,b0,sp,held,m,p,h4⟩:=h3 k _ (by
  have:=hfm k hk
  unfold Rows.laid_palmette_formula_forms at hds
  rw [←DataW.agg.inj hds] at this
  exact this)
 have hl:(cs.toList.drop (k*4)).length≥4:=by simp;omega
 obtain⟨a,b,c,d,r,hr⟩:∃a b c d r,cs.toList.drop (k*4)=a::b::c::d::r:=by
  match cs.toList.drop (k*4),hl with
  | a::b::c::d::r,_=>exact⟨a,b,c,d,r,rfl⟩
 rw [hr] at h4
 obtain⟨xs,n,rfl,hx,_,hlen,hfi⟩:=DataW.trod_struct Tryz.underlying159 h4
 match xs,hlen with
 | [y0,y1,y2,y3],_ =>
  have f0:=hfi 0 { name:= "names",type:=3,offset:=0,embedded:=false,tag:= "",pkgPath:= "palmette/formula",byteOffset:=0 } rfl
  have f1:=hfi 1 { name:= "more",type:=3,offset:=1,embedded:=false,tag:= "",pkgPath:= "palmette/formula",byteOffset:=8 } rfl
  have f2:=hfi 2 { name:= "nodes",type:=3,offset:=2,embedded:=false,tag:= "",pkgPath:= "palmette/formula",byteOffset:=16 } rfl
  have f3:=hfi 3 { name:= "sort",type:=4,offset:=3,embedded:=false,tag:= "",pkgPath:= "palmette/formula",byteOffset:=24 } rfl
  simp only [show Tryz.prog.cellsOf 3=1 by kernel_rfl,show Tryz.prog.cellsOf 4=1 by kernel_rfl] at f0 f1 f2 f3
  simp at f0 f1 f2 f3
  have hx1:=congrArg Prod.fst hx
  simp only [List.map_cons,List.map_nil,DataW.agg.injEq,List.cons.injEq,and_true] at hx1
  obtain⟨z0,z1,z2,z3⟩:=hx1
  obtain⟨y0,q0⟩:=y0
  obtain⟨y1,q1⟩:=y1
  obtain⟨y2,q2⟩:=y2
  obtain⟨y3,q3⟩:=y3
  simp only at z0 z1 z2 z3
  subst z0 z1 z2 z3
  have e0:=int_of f0
  have e1:=int_of f1
  have e2:=int_of f2
  have e3:=bool_of f3
  have at_:∀j v,(cs.toList.drop (k*4))[j]?=some v→W.cell? ⟨2,k*4+j,none⟩=some v:=by
   intro j v hj
   rw [List.getElem?_drop] at hj
   rw [h1]
   simpa using hj
  rw [hr] at at_
  exact⟨by rw [←e0];exact at_ 0 a rfl,by rw [←e1];exact at_ 1 b rfl,by rw [←e2];exact at_ 2 c rfl,by rw [←e3];exact at_ 3 d rfl⟩
theorem penv_of (h:laidMet Tryz.prog L W) (hf:L.filter (fun x=>x.1== "palmette/printer.words")=[("palmette/printer.words",Rows.laid_palmette_printer_words)]) (hf2:L.filter (fun x=>x.1== "palmette/printer.tight")=[("palmette/printer.tight",Rows.laid_palmette_printer_tight)]):PEnv W:=by
 constructor
 ·obtain⟨cs,h1,h2,h3⟩:=arr_of (g:=1) (t:=145) (n:=18) (e:=9) (z:=1) (by kernel_rfl) (by kernel_rfl) Tryz.underlying145 (by kernel_rfl) (by kernel_rfl) h hf
  intro k x hk
  have hk18:k<18:=(List.getElem?_eq_some_iff.1 hk).1
  have hb:(pwordL.map fun x=>(.lit (.string x):DataW Unit))[k]?=some (.lit (.string x)):=by rw [List.getElem?_map,hk];rfl
  obtain⟨enc,b0,sp,held,m,p,h4⟩:=h3 k _ hb
  exact one_at (_R:=fun _=>True) h1 h2 hk18 (fun v hv=>by rw [hv] at h4;exact str_of h4)
 ·obtain⟨cs,h1,h2,h3⟩:=arr_of (g:=3) (t:=165) (n:=18) (e:=3) (z:=1) (by kernel_rfl) (by kernel_rfl) Tryz.underlying165 (by kernel_rfl) (by kernel_rfl) h hf2
  intro k x hk
  have hk18:k<18:=(List.getElem?_eq_some_iff.1 hk).1
  have hb:(tightL.map fun x=>(.lit (.int .i64 x):DataW Unit))[k]?=some (.lit (.int .i64 x)):=by rw [List.getElem?_map,hk];rfl
  obtain⟨enc,b0,sp,held,m,p,h4⟩:=h3 k _ hb
  exact one_at (_R:=fun _=>True) h1 h2 hk18 (fun v hv=>by rw [hv] at h4;exact int_of h4)
end
end Go.Proofs.YtkhbpebpljdifaaGreatDoor
namespace Go.Proofs.YtkhbpebpljdifaaGreatDoor
open Go.RowKit Go.PL Go.Maps
theorem str_tight:∀k:_root_.Fin 18,strI (k.val:Int)=if 0<tightL.getD k.val 0 then tightL.getD k.val 0 else 6:=by decide +kernel
theorem kLq {w:World} {b:Nat} {cs:Array Value} {t:TypeId} {z:Nat×Nat} (h:w.heap[b]?=some (.cells cs t z)) (c:Nat) (xs:List Value) (hx:∀(j:Nat) u,xs[j]?=some u→cs[j]?=some u):SlC w (.slice (some ⟨b,0,none⟩) xs.length c) xs :=
 Or.inr ⟨b,0,c,rfl,fun j u hj=>by rw [kAz h,Nat.zero_add];exact hx j u hj⟩
theorem kUj {a:Int} (h:0≤a):∃n:Nat,a=(n:Int):=⟨a.toNat,by omega⟩
theorem kTq (op so nn mm:Int) (b1:Option Addr) (b2 b3:Nat) (d1:Option Addr) (d2 d3:Nat) (w:World) (hp:PEnv w) (h0:0≤op) (h1:op≤17):Calls Tryz.prog 105 #[.agg #[.int .i64 op,.slice b1 b2 b3,.int .i64 so,.int .i64 nn,.int .i64 mm,.slice d1 d2 d3]] w fun e w'=>e=.returned (.int .i64 (strI op))∧Upto [] w w':=by
 have HU:Hid (Upto [] w (w.alloc (.cells #[.int .i64 op,.slice b1 b2 b3,.int .i64 so,.int .i64 nn,.int .i64 mm,.slice d1 d2 d3] 34))):=Lib.hid ((Upto.refl [] w).alloc _)
 obtain⟨k,rfl⟩:=kUj h0
 have hk:k<18:=by omega
 have ht:=str_tight ⟨k,hk⟩
 simp only at ht
 obtain⟨t,htt⟩:∃t,tightL[k]?=some t:=⟨_,List.getElem?_eq_getElem (by show k<tightL.length;simpa [tightL] using hk)⟩
 have htd:tightL.getD k 0=t:=by rw [List.getD_eq_getElem?_getD,htt];rfl
 rw [htd] at ht
 have c0:=hp.tight k t htt
 replace c0:=kAw HU.out c0
 have hk0:(0:Int)≤k:=by omega
 have hk1:(k:Int)<18:=by omega
 clear htt htd hp hk h0 h1
 by_cases h2:0<t
 ·rw [if_pos h2] at ht
  rw [ht]
  clear ht
  go_enter Tryz.func105,Tryz.ntmps105
  go_wp2_with fail
  go_ret
  exact⟨rfl,HU.out⟩
 ·rw [if_neg h2] at ht
  rw [ht]
  clear ht
  go_enter Tryz.func105,Tryz.ntmps105
  go_wp2_with fail
  go_ret
  exact⟨rfl,HU.out⟩
theorem kUq (op so nn mm:Int) (b1:Option Addr) (b2 b3:Nat) (d1:Option Addr) (d2 d3:Nat) (w:World) (h1:op≤17):Calls Tryz.prog 109 #[.agg #[.int .i64 op,.slice b1 b2 b3,.int .i64 so,.int .i64 nn,.int .i64 mm,.slice d1 d2 d3]] w fun e w'=>e=.returned (.bool (decide (15<op)))∧Upto [] w w':=by
 have HU:Hid (Upto [] w (w.alloc (.cells #[.int .i64 op,.slice b1 b2 b3,.int .i64 so,.int .i64 nn,.int .i64 mm,.slice d1 d2 d3] 34))):=Lib.hid ((Upto.refl [] w).alloc _)
 by_cases h16:op=16
 ·subst h16
  clear h1
  go_enter Tryz.func109,Tryz.ntmps109
  go_wp2_with fail
  go_ret
  exact⟨rfl,HU.out⟩
 by_cases h17:op=17
 ·subst h17
  clear h1
  go_enter Tryz.func109,Tryz.ntmps109
  go_wp2_with fail
  go_ret
  exact⟨rfl,HU.out⟩
 have e:decide (15<op)=false:=by simp;omega
 rw [e]
 have q1:(op==16)=false:=by simpa using h16
 have q2:(op==17)=false:=by simpa using h17
 clear e h1 h16 h17
 go_enter Tryz.func109,Tryz.ntmps109
 go_wp2_with fail
 go_ret
 exact⟨rfl,HU.out⟩
structure WrI (w0 w:World) (p:Nat) (ts:List (List UInt8)):Prop where
 up:Upto [] w0 w
 pn:w0.heap.size≤p
 st:∃(a:Option Addr) (n c:Nat),w.heap[p]?=some (.cells #[.slice a n c] 101 (0,0))∧w.ownsRow 0 9 1 (.slice a n c) ts.length (ts.map sV)∧∀g,(Value.slice a n c).ownBlock=some g→w0.heap.size≤g∧g≠p
theorem WrI.ext {w0 w w':World} {p:Nat} {ts:List (List UInt8)} (h:WrI w0 w p ts) (hu:Upto [] w w'):WrI w0 w' p ts:=by
 obtain⟨a,n,c,h1,h2,h3⟩:=h.st
 exact⟨h.up.trans_ext hu,h.pn,a,n,c,hu.at h1 (by simp),kIx h2 hu (by simp),h3⟩
theorem WrI.lt {w0 w:World} {p:Nat} {ts:List (List UInt8)} (h:WrI w0 w p ts):p<w.heap.size:=by
 obtain⟨a,n,c,h1,-,-⟩:=h.st
 exact kAk h1
structure Apart (w:World) (p B:Nat):Prop where
 ne:B≠p
 own:∀a n c T z,w.heap[p]?=some (.cells #[.slice a n c] T z)→(Value.slice a n c).ownBlock≠some B
def Kp (w:World) (p B:Nat) (o:Obj):Prop:=w.heap[B]?=some o∧Apart w p B
def WrK (w w':World) (p:Nat):Prop:=w.heap.size≤w'.heap.size∧∀B o,Kp w p B o→Kp w' p B o
theorem WrK.refl (w:World) (p:Nat):WrK w w p:=⟨Nat.le_refl _,fun _ _ h=>h⟩
theorem WrK.trans {a b c:World} {p:Nat} (h:WrK a b p) (k:WrK b c p):WrK a c p:=⟨Nat.le_trans h.1 k.1,fun B o hb=>k.2 B o (h.2 B o hb)⟩
theorem WrI.keep {w0 w w':World} {p:Nat} {ts:List (List UInt8)} (h:WrI w0 w p ts) (hu:Upto [] w w'):WrK w w' p:=by
 refine⟨hu.size,fun B o hb=>⟨hu.at hb.1 (by simp),hb.2.ne,fun a n c T z hc=>hb.2.own a n c T z ?_⟩⟩
 rw [←hc]
 exact (hu.block p h.lt (by simp)).symm
theorem WrI.fresh {w0 w:World} {p:Nat} {ts:List (List UInt8)} (h:WrI w0 w p ts) (cs:Array Value) (t:TypeId):Kp (w.alloc (.cells cs t)) p w.heap.size (.cells cs t (0,0)):=by
 have hp:=h.lt
 refine⟨kAq w _,by omega,fun a n c T z hc=>?_⟩
 rw [((Upto.refl [] w).alloc (.cells cs t)).block p hp (by simp)] at hc
 obtain⟨a',n',c',h1,h2,-⟩:=h.st
 rw [hc] at h1
 simp only [Option.some.injEq,Obj.cells.injEq,Array.mk.injEq,List.cons.injEq,and_true] at h1
 intro e
 rw [h1.1] at e
 obtain⟨cur,hh⟩:=kOq h2 e
 have:=kAk hh
 omega
theorem infoS:∃i,Tryz.prog.info? 9=some i∧i.zero=some (.string ⟨#[]⟩)∧i.size=1∧i.bytes=16:=by
 have h:(Tryz.prog.info? 9).map (fun i=>(i.zero,i.size,i.bytes))=some (some (.string ⟨#[]⟩),1,16):=by kernel_rfl
 cases hi:Tryz.prog.info? 9 with
 | none=>rw [hi] at h;cases h
 | some i =>
  rw [hi] at h
  simp only [Option.map_some,Option.some.injEq,Prod.mk.injEq] at h
  exact⟨i,rfl,h.1,h.2.1,h.2.2⟩
theorem put_step {w0 w w5:World} {p:Nat} {ts news:List (List UInt8)} {a:Option Addr} {n c:Nat} {b5:Option Addr} {c5:Nat} (hup:Upto [] w0 w) (hpn:w0.heap.size≤p) (hb:w.heap[p]?=some (.cells #[.slice a n c] 101 (0,0))) (hown:∀g,(Value.slice a n c).ownBlock=some g→w0.heap.size≤g∧g≠p)
  (ho5:w5.ownsRow 0 9 1 (.slice b5 (ts.length+news.length) c5) (ts.length+news.length) (ts.map sV++news.map sV)) (hu5:Upto (Value.slice a n c).ownBlock.toList w w5) (hw5:∀g,(Value.slice b5 (ts.length+news.length) c5).ownBlock=some g→(Value.slice a n c).ownBlock=some g∨w.heap.size≤g) :
  w5.heap[p]?=some (.cells #[.slice a n c] 101 (0,0))∧WrI w0 (w5.setCell ⟨p,0,none⟩ (.slice b5 (ts.length+news.length) c5)) p (ts++news)∧WrK w (w5.setCell ⟨p,0,none⟩ (.slice b5 (ts.length+news.length) c5)) p:=by
 have hb5:=hu5.at hb (fun hm=>(hown _ (Option.mem_toList.1 hm)).2 rfl)
 have hst:Upto [p] w5 (w5.setCell ⟨p,0,none⟩ (.slice b5 (ts.length+news.length) c5)):=(Upto.refl [p] w5).setCell (p:=⟨p,0,none⟩) (Or.inl (by simp)) _
 have hlt:=kAk hb
 have hs:=hup.size
 have hnew:∀g,(Value.slice b5 (ts.length+news.length) c5).ownBlock=some g→w0.heap.size≤g∧g≠p:=fun g hg=>by
  rcases hw5 g hg with h | h
  ·exact hown g h
  ·exact⟨by omega,by omega⟩
 have hfin:(w5.setCell ⟨p,0,none⟩ (.slice b5 (ts.length+news.length) c5)).heap[p]?=some (.cells #[.slice b5 (ts.length+news.length) c5] 101 (0,0)):=by simpa using kCw hb5 0 (.slice b5 (ts.length+news.length) c5)
 refine⟨hb5,⟨?_,hpn,b5,ts.length+news.length,c5,hfin,?_,hnew⟩,Nat.le_trans hu5.size hst.size,fun B o hB=>⟨?_,hB.2.ne,fun a' n' c' T z hc e=>?_⟩⟩
 ·exact (hup.trans hu5 (fun k hk=>Or.inr (hown k (Option.mem_toList.1 hk)).1)).trans hst (fun k hk=>by simp at hk;subst hk;exact Or.inr hpn)
 ·rw [List.length_append,List.map_append]
  exact kIx ho5 hst (fun g hg=>by have:=(hnew g hg).2;simpa using this)
 ·exact hst.at (hu5.at hB.1 (fun hm=>hB.2.own a n c 101 (0,0) hb (Option.mem_toList.1 hm))) (by simpa using hB.2.ne)
 ·rw [hfin] at hc
  simp only [Option.some.injEq,Obj.cells.injEq,Array.mk.injEq,List.cons.injEq,and_true] at hc
  rw [←hc.1] at e
  rcases hw5 B e with h | h
  ·exact hB.2.own a n c 101 (0,0) hb h
  ·have:=kAk hB.1
   omega
theorem kXq (w0 w:World) (p:Nat) (ts news:List (List UInt8)) (y:Value) (h:WrI w0 w p ts) (hy:SlC w y (news.map sV)) (hl:ts.length+news.length≤1000000000000):Calls Tryz.prog 104 #[.pointer (some ⟨p,0,none⟩),y] w fun e w'=>e=.returned (.tuple #[])∧WrI w0 w' p (ts++news)∧WrK w w' p:=by
 obtain⟨a,n,c,hb,hrow,hown⟩:=h.st
 obtain⟨va',vc',hve,-⟩:=kJj hrow
 simp only [Value.slice.injEq] at hve
 obtain rfl:n=ts.length:=hve.2.1
 obtain⟨ya,yc,rfl⟩:=hy.len
 have HA:=Lib.hid (fun b5 c5 w5 ho5 hu5 hw5=>put_step (ts:=ts) (news:=news) (b5:=b5) (c5:=c5) (w5:=w5) h.up h.pn hb hown ho5 hu5 hw5)
 have HR:=Lib.hid hrow
 have HY:=Lib.hid hy
 have y0:=kAz hb 0
 have f0:=kDx hb 0
 simp only [List.getElem?_toArray,List.getElem?_cons_zero] at y0
 have HOC:Hid (∀u∈news.map sV,u.oneCell'=true):=Lib.hid (fun u hu=>by
  obtain⟨x,-,rfl⟩:=List.mem_map.1 hu
  rfl)
 have HL:Hid ((news.map sV).length=news.length):=Lib.hid (by simp)
 obtain⟨i0,hi0,hz0,hz1,hz2⟩:=infoS
 clear h hrow hown hy hb hve
 go_enter Tryz.func104,Tryz.ntmps104
 go_wp2_with (at_builtin
              refine wpList_apps _ rfl (.tmp 8) (.tmp 9) 22 rfl 9 i0 (.string ⟨#[]⟩) 16 Tryz.underlying22 hi0 hz0 hz1 hz2 rfl (.slice a ts.length c) ts.length (ts.map sV) rfl HR.out (.slice ya (news.map sV).length yc) (news.map sV) rfl HY.out HOC.out (by rw [HL.out];unfold maxLen;omega) (by rw [HL.out];omega) ?_
              intro b5 c5 w5 ho5 hu5 hw5
              rw [HL.out] at ho5 hw5 ⊢
              obtain⟨hb5,hI5⟩:=HA.out b5 c5 w5 ho5 hu5 hw5
              have HI5:=Lib.hid hI5
              have x0:=kAz hb5 0
              have xf0:=kDx hb5 0
              simp only [List.getElem?_toArray,List.getElem?_cons_zero] at x0
              clear ho5 hu5 hw5 hI5 hb5 y0 f0)
 exact bodyPost_end (v:=.tuple #[]) (by simp [results,Tryz.results104,go_sem]) rfl ⟨rfl,HI5.out.1,HI5.out.2⟩
def CapOk (y:Value) (n:Nat):Prop:=∃a c,y=.slice a n c∧n≤c
def kXw (w:World) (xs:List (List UInt8)) (e:Ending) (w':World):Prop:=∃y,e=.returned y∧SlC w' y (xs.map sV)∧Upto [] w w'∧CapOk y xs.length
theorem quw_word:∀k:_root_.Fin 2,pwordL[16+k.val]?=some (quW (16+(k.val:Int))):=by decide +kernel
theorem quantifier_calls (op so nn mm:Int) (b1:Option Addr) (b2 b3:Nat) (d1:Option Addr) (d2 d3:Nat) (x:List UInt8) (w:World) (hp:PEnv w) (hs:SEnv w) (h0:16≤op) (h1:op≤17) (hx:∃g o,b1=some ⟨g,o,none⟩∧w.cell? ⟨g,o,none⟩=some (.string ⟨x.toArray⟩)) (hb2:1≤b2):Calls Tryz.prog 110 #[.agg #[.int .i64 op,.slice b1 b2 b3,.int .i64 so,.int .i64 nn,.int .i64 mm,.slice d1 d2 d3]] w (kXw w [quW op,kOj so,x,[58]]):=by
 obtain⟨k,rfl⟩:=kUj (show 0≤op by omega)
 obtain⟨g,o,rfl,c1⟩:=hx
 have hu1:Upto [] w (w.alloc (.cells #[.int .i64 (k:Int),.slice (some ⟨g,o,none⟩) b2 b3,.int .i64 so,.int .i64 nn,.int .i64 mm,.slice d1 d2 d3] 34)):=(Upto.refl [] w).alloc _
 have HU:=Lib.hid hu1
 obtain⟨W,hW⟩:∃W,W=quW (k:Int):=⟨_,rfl⟩
 have htt:pwordL[k]?=some W:=by
  have:=quw_word ⟨k-16,by omega⟩
  simp only at this
  rw [show 16+(k-16)=k by omega] at this
  rw [this,hW]
  congr 2
  omega
 rw [←hW]
 clear hW
 have c0:=hp.word k W htt
 replace c0:=kAw hu1 c0
 replace c1:=kAw hu1 c1
 have HSN:=Lib.hid (fun (s:Int) u (hu:Upto [] (w.alloc (.cells #[.int .i64 (k:Int),.slice (some ⟨g,o,none⟩) b2 b3,.int .i64 so,.int .i64 nn,.int .i64 mm,.slice d1 d2 d3] 34)) u)=>sname_calls s u (hs.upto (hu1.trans_ext hu) (by simp)))
 have hb:=kAq w (.cells #[.int .i64 (k:Int),.slice (some ⟨g,o,none⟩) b2 b3,.int .i64 so,.int .i64 nn,.int .i64 mm,.slice d1 d2 d3] 34)
 obtain⟨y0,y1,y2,y3,y4,y5⟩:=kAx hb
 have hk0:(0:Int)≤k:=by omega
 have hk1:(k:Int)<18:=by omega
 have hb2I:(0:Int)<b2:=by omega
 have e0:=fun u:Ext (w.alloc (.cells #[.int .i64 (k:Int),.slice (some ⟨g,o,none⟩) b2 b3,.int .i64 so,.int .i64 nn,.int .i64 mm,.slice d1 d2 d3] 34))=>u.cell y0
 have e1:=fun u:Ext (w.alloc (.cells #[.int .i64 (k:Int),.slice (some ⟨g,o,none⟩) b2 b3,.int .i64 so,.int .i64 nn,.int .i64 mm,.slice d1 d2 d3] 34))=>u.cell y1
 have e2:=fun u:Ext (w.alloc (.cells #[.int .i64 (k:Int),.slice (some ⟨g,o,none⟩) b2 b3,.int .i64 so,.int .i64 nn,.int .i64 mm,.slice d1 d2 d3] 34))=>u.cell y2
 have ew:=fun u:Ext (w.alloc (.cells #[.int .i64 (k:Int),.slice (some ⟨g,o,none⟩) b2 b3,.int .i64 so,.int .i64 nn,.int .i64 mm,.slice d1 d2 d3] 34))=>u.cell c0
 have ex:=fun u:Ext (w.alloc (.cells #[.int .i64 (k:Int),.slice (some ⟨g,o,none⟩) b2 b3,.int .i64 so,.int .i64 nn,.int .i64 mm,.slice d1 d2 d3] 34))=>u.cell c1
 clear htt hp hs h0 h1 hu1 hb y0 y1 y2 y3 y4 y5 c0 c1 hb2
 go_enter Tryz.func110,Tryz.ntmps110
 go_wp2_with fail
 refine kFx [6,11] [] [0,1,2,3,4,5,6,7,8,9,10,11,12] (by kernel_rfl) (by kernel_rfl) ?_
 iterate 6 (refine kCq rfl rfl rfl rfl rfl ?_;intro K' hK';go_big_quiet_op;go_big_quiet_on)
 refine kMw rfl rfl rfl rfl (fun w=>by go_simp) (fun u hu hd=>HSN.out so u hu) ?_
 simp only [Act.put,List.setIfInBounds_toArray,List.set_cons_zero,List.set_cons_succ]
 iterate 4 (refine kCq rfl rfl rfl rfl rfl ?_;intro K' hK';go_big_quiet_op;go_big_quiet_on)
 refine kYw (Y:=Nat) (fun b=>.slice (some ⟨b,0,none⟩) 4 4) (fun b u=>u.heap[b]?=some (.cells #[.string ⟨W.toArray⟩,.string ⟨(kOj so).toArray⟩,.string ⟨x.toArray⟩,.string ⟨#[58]⟩] 9 (0,0))) (fun _=>[]) rfl rfl rfl rfl (fun _ _ _ h hu=>hu.at h (by simp)) (fun _=>List.nodup_nil) (fun w' post hu hd hp=>(congrArg (kNj Tryz.prog post) (show _=Result.ok (Next.value (.slice (some ⟨w'.heap.size,0,none⟩) 4 4)) (w'.alloc (.cells #[.string ⟨W.toArray⟩,.string ⟨(kOj so).toArray⟩,.string ⟨x.toArray⟩,.string ⟨#[58]⟩] 9)) from by go_simp)).mpr (hp w'.heap.size _ ((Upto.refl [] w').alloc _) (kAq _ _) (fun b hb=>by cases hb))) ?_
 intro b8
 simp only [Act.put,List.setIfInBounds_toArray,List.set_cons_zero,List.set_cons_succ]
 (refine kCq rfl rfl rfl rfl rfl ?_;intro K' hK';go_big_quiet_op;go_big_quiet_on)
 intro w9 hg
 have HW9:=Lib.hid (HU.out.trans_ext hg.up)
 have HB8:Hid (w9.heap[b8]?=some (.cells #[.string ⟨W.toArray⟩,.string ⟨(kOj so).toArray⟩,.string ⟨x.toArray⟩,.string ⟨#[58]⟩] 9 (0,0))):=Lib.hid hg.hold.1
 clear hg
 go_wp2_with fail
 go_ret
 exact⟨_,rfl,kLq HB8.out 4 [sV W,sV (kOj so),sV x,sV [58]] (fun j u hj=>by simpa [sV] using hj),HW9.out,_,_,rfl,Nat.le_refl _⟩
theorem join_row {w:World} {ls:List (List UInt8)} {l:Value} (h:w.ownsRow 0 9 1 l ls.length (ls.map sV)) (hj:(Lib.join ls [32]).length≤140737488355328) (hn:ls.length≤140737488355328):Calls Tryz.prog 82 #[l,.string ⟨#[32]⟩] w fun e w'=>e=.returned (.string ⟨(Lib.join ls [32]).toArray⟩)∧Upto [] w w':=by
 obtain⟨xs,hxs⟩:∃xs:List ByteArray,xs=ls.map fun l=>(⟨l.toArray⟩:ByteArray):=⟨_,rfl⟩
 have hxl:xs.length=ls.length:=by rw [hxs,List.length_map]
 have hxj:xs.map (fun x=>x.data.toList)=ls:=by rw [hxs,List.map_map];simp [Function.comp_def]
 have hxc:∀(j:Nat) x,xs[j]?=some x→(ls.map sV)[j]?=some (.string x):=by
  intro j x hj
  rw [hxs,List.getElem?_map] at hj
  obtain⟨y,hy,rfl⟩:=Option.map_eq_some_iff.1 hj
  rw [List.getElem?_map,hy]
  rfl
 rcases h.2 with⟨h1,h2⟩ | ⟨g,cap,cur,he,_,hh,hcap,_,hcs,ht⟩
 ·have h0:ls=[]:=by simpa using h2
  subst h0
  rw [h1]
  exact (Tryz.strings_Join_none none 0 ⟨#[32]⟩ w).mono fun e w' ⟨h3,h4⟩=>⟨h3,by rw [h4];exact Upto.refl _ _⟩
 ·rw [he,←hxl]
  by_cases h0:xs.length=0
  ·have h00:ls=[]:=List.eq_nil_of_length_eq_zero (by omega)
   rw [h0,h00]
   exact (Tryz.strings_Join_none _ _ ⟨#[32]⟩ w).mono fun e w' ⟨h3,h4⟩=>⟨h3,by rw [h4];exact Upto.refl _ _⟩
  ·have key:=Tryz.strings_Join g 0 cap xs ⟨#[32]⟩ w (fun j x hj=>by
    rw [Nat.zero_add,kAz hh]
    have h5:=hxc j x hj
    rw [←ht,List.getElem?_take] at h5
    split at h5
    ·simpa using h5
    ·cases h5) (kAk hh) (by omega) (by omega) (by rw [hxj];exact hj)
   rw [hxj] at key
   exact key.mono fun e w' ⟨h3,h4⟩=>⟨h3,ext_of h4⟩
def cutP (S:List UInt8):List UInt8×Nat:=if 65536<S.length then ([],2) else (S,0)
def kTk (q:Qn):List UInt8×Nat:=if kIj kBj q=0 then cutP (jn (prQ q)) else ([],kIj kBj q)
def nodeF (n:Nd):List UInt8×Nat:=if kSq kBj n=0 then cutP (jn (prT true n)) else ([],kSq kBj n)
def pairV (r:List UInt8×Nat):Value:=.tuple #[.string ⟨r.1.toArray⟩,.int .i64 (r.2:Nat)]
theorem jn_txs (L:List PL.Tok):Lib.join (txs L) [32]=jn L:=(jn_join L).symm
theorem text_calls (w0 w:World) (p:Nat) (ts:List (List UInt8)) (h:WrI w0 w p ts) (hj:(Lib.join ts [32]).length≤140737488355328) (hn:ts.length≤140737488355328):Calls Tryz.prog 72 #[.pointer (some ⟨p,0,none⟩)] w fun e w'=>e=.returned (pairV (cutP (Lib.join ts [32])))∧Upto [] w w':=by
 obtain⟨a,n,c,hb,hrow,hown⟩:=h.st
 have HJ:=Lib.hid (join_row hrow hj hn)
 have y0:=kAz hb 0
 simp only [List.getElem?_toArray,List.getElem?_cons_zero] at y0
 clear h hrow hown hb hn
 generalize Lib.join ts [32]=S at *
 have s0:(ByteArray.mk S.toArray).size=S.length:=rfl
 have sI:(S.length:Int)≤9223372036854775807:=by omega
 by_cases hz:65536<S.length
 ·have hzI:(65536:Int)<S.length:=by omega
  have HC:Hid (cutP S=([],2)):=Lib.hid (by unfold cutP;rw [if_pos hz])
  clear hj hz
  go_enter Tryz.func72,Tryz.ntmps72
  go_wp2_with fail
  refine HJ.out.mono ?_
  rintro e w2 ⟨rfl,hu2⟩
  have HU2:=Lib.hid hu2
  clear hu2 y0
  go_wp2_with fail
  go_ret2
  exact⟨by rw [HC.out];rfl,HU2.out⟩
 ·have hzI:¬(65536:Int)<S.length:=by omega
  have HC:Hid (cutP S=(S,0)):=Lib.hid (by unfold cutP;rw [if_neg hz])
  clear hj hz
  go_enter Tryz.func72,Tryz.ntmps72
  go_wp2_with fail
  refine HJ.out.mono ?_
  rintro e w2 ⟨rfl,hu2⟩
  have HU2:=Lib.hid hu2
  clear hu2 y0
  go_wp2_with fail
  go_ret2
  exact⟨by rw [HC.out];rfl,HU2.out⟩
def fiT (f:List (List UInt8×Int)):List (List UInt8):=if f=[] then [] else [102,105,110,100]::frT f
theorem fiT_one {v:List UInt8×Int}:fiT [v]=[[102,105,110,100]]++[kDj.getD v.2.toNat [],v.1]:=by
 unfold fiT
 rw [if_neg (by simp)]
 have:=frT_snoc [] v
 simp only [List.nil_append,if_true,frT_nil] at this
 rw [this]
 rfl
theorem fiT_snoc {f:List (List UInt8×Int)} (hf:f≠[]) (v:List UInt8×Int):fiT (f++[v])=fiT f++[[44]]++[kDj.getD v.2.toNat [],v.1]:=by
 unfold fiT
 rw [if_neg (by simp),if_neg hf,frT_snoc,if_neg hf]
 simp
theorem fiT_len (f:List (List UInt8×Int)):(fiT f).length≤3*f.length+1:=by
 unfold fiT
 have:=frT_len f
 split
 ·simp
 ·simp only [List.length_cons];omega
theorem fiT_free (f:List (List UInt8×Int)):fiT f++(if f=[] then [] else [[58]])=txs ((freeB f).map Prod.snd):=by
 by_cases hf:f=[]
 ·subst hf;rfl
 ·rw [if_neg hf,txs_free hf]
  unfold fiT
  rw [if_neg hf]
  rfl
theorem find_calls (w0 w:World) (p:Nat) (ts:List (List UInt8)) (P:Nat→Prop) (f:List (List UInt8×Int)) (L:Nat) (hL:f.length=L) (f1:Option Addr) (f3:Nat) (o1:Int) (a1:Option Addr) (a2 a3:Nat) (s1 n1 m1:Int) (l1:Option Addr) (l2 l3:Nat) (hW:WrI w0 w p ts) (hv:VarsV w0 P (.slice f1 L f3) f) (hf:okV f) (hSE:∀u,Upto [] w0 u→SEnv u) (hlen:ts.length≤900000000000):Calls Tryz.prog 70 #[.pointer (some ⟨p,0,none⟩),.agg #[.slice f1 L f3,.int .i64 o1,.slice a1 a2 a3,.int .i64 s1,.int .i64 n1,.int .i64 m1,.slice l1 l2 l3]] w fun e w'=>e=.returned (.tuple #[])∧WrI w0 w' p (ts++txs ((freeB f).map Prod.snd))∧WrK w w' p:=by
 have hL8:L≤8:=by have:=hf.1;omega
 have u1:Upto [] w (w.alloc (.cells #[.slice f1 L f3,.int .i64 o1,.slice a1 a2 a3,.int .i64 s1,.int .i64 n1,.int .i64 m1,.slice l1 l2 l3] 48)):=(Upto.refl [] w).alloc _
 have HW1:=Lib.hid (hW.ext u1)
 have KB1:=Lib.hid (hW.fresh #[.slice f1 L f3,.int .i64 o1,.slice a1 a2 a3,.int .i64 s1,.int .i64 n1,.int .i64 m1,.slice l1 l2 l3] 48)
 have HK1:=Lib.hid (hW.keep u1)
 have HSN:=Lib.hid (fun (s:Int) u (hu:Upto [] w0 u)=>sname_calls s u (hSE u hu))
 have HPT:=Lib.hid (fun u tss news y (h:WrI w0 u p tss) (hy:SlC u y (news.map sV)) hl=>kXq w0 u p tss news y h hy hl)
 have HVS:=Lib.hid (kWj hv)
 have HFL:Hid (∀j,(fiT (f.take j)).length≤30):=Lib.hid (fun j=>by
  have h1:=fiT_len (f.take j)
  have h2:(f.take j).length≤8:=by rw [List.length_take];omega
  omega)
 have HLEN:=Lib.hid hlen
 have HOK:=Lib.hid hf.2.1
 have HL:=Lib.hid hL
 have hb:=KB1.out.1
 obtain⟨y0,y1,y2,y3,y4,y5,y6⟩:=kBw hb
 have hLI:(L:Int)≤8:=by omega
 have hL0:(0:Int)≤L:=by omega
 have HW0:Hid (WrI w0 (w.alloc (.cells #[.slice f1 L f3,.int .i64 o1,.slice a1 a2 a3,.int .i64 s1,.int .i64 n1,.int .i64 m1,.slice l1 l2 l3] 48)) p (ts++fiT (f.take 0))):=Lib.hid (by have:=HW1.out;simpa [fiT] using this)
 clear u1 hW hv hf hSE hlen hL hb
 go_enter Tryz.func70,Tryz.ntmps70
 go_wp2_with fail
 clear y0 y1 y2 y3 y4 y5 y6
 generalize hB:w.heap.size=B at *
 go_loopw [9] (fun i wr=>∃j:Nat,j≤L∧i=.int .i64 j∧Hid (WrI w0 wr p (ts++fiT (f.take j)))∧Hid (Kp wr p B (.cells #[.slice f1 L f3,.int .i64 o1,.slice a1 a2 a3,.int .i64 s1,.int .i64 n1,.int .i64 m1,.slice l1 l2 l3] 48 (0,0)))∧Hid (WrK w wr p)) (fun i _=>L-(intOf i).toNat)
 case atStart=>exact⟨0,by omega,rfl,HW0,KB1,HK1⟩
 case round =>
  obtain⟨j,hj,rfl,HW,HKB,HK⟩:=hrel
  clear HW0 HW1 KB1 HK1
  have hj0:(0:Int)≤j:=by omega
  rcases Nat.lt_or_ge j L with hlt | hge
  ·have hltI:(j:Int)<L:=by omega
   obtain⟨⟨x1,x2⟩,hx⟩:∃x,f[j]?=some x:=⟨_,List.getElem?_eq_getElem (by rw [HL.out];exact hlt)⟩
   obtain⟨g,o,rfl,d0,d1⟩:=HVS.out j _ hx
   simp only at d0 d1
   replace d0:=kAw HW.out.up d0
   replace d1:=kAw HW.out.up d1
   have HSW:Hid (kDj.getD x2.toNat []=kOj x2):=Lib.hid (by
    have:=HOK.out _ (List.mem_of_getElem? hx)
    exact sort_word this.2.1 this.2.2)
   have HT:Hid (f.take (j+1)=f.take j++[(x1,x2)]):=Lib.hid (by
    obtain⟨hi,h2⟩:=List.getElem?_eq_some_iff.1 hx
    rw [List.take_succ_eq_append_getElem hi,h2])
   by_cases hz:j=0
   ·subst hz
    have HFE:Hid (fiT (f.take (0+1))=fiT (f.take 0)++[[102,105,110,100]]++[kOj x2,x1]):=Lib.hid (by
     rw [HT.out,List.take_zero,List.nil_append,fiT_one,HSW.out]
     rfl)
    clear hx HT HSW
    simp only [Nat.zero_mul,Nat.add_zero] at d0 d1
    have u5:Upto [] wr (wr.alloc (.cells #[.string ⟨x1.toArray⟩,.int .i64 x2] 86)):=(Upto.refl [] _).alloc _
    have u6:Upto [] (wr.alloc (.cells #[.string ⟨x1.toArray⟩,.int .i64 x2] 86)) ((wr.alloc (.cells #[.string ⟨x1.toArray⟩,.int .i64 x2] 86)).alloc (.cells #[.string ⟨#[102,105,110,100]⟩] 9)):=(Upto.refl [] _).alloc _
    have hw5:=HW.out.ext u5
    have HW6:=Lib.hid (hw5.ext u6)
    have K5:=Lib.hid ((hw5.keep u6).2 _ _ (HW.out.fresh #[.string ⟨x1.toArray⟩,.int .i64 x2] 86))
    have KB6:=Lib.hid ((hw5.keep u6).2 _ _ ((HW.out.keep u5).2 _ _ HKB.out))
    have HK6:=Lib.hid ((HK.out.trans (HW.out.keep u5)).trans (hw5.keep u6))
    have HY6:Hid (SlC ((wr.alloc (.cells #[.string ⟨x1.toArray⟩,.int .i64 x2] 86)).alloc (.cells #[.string ⟨#[102,105,110,100]⟩] 9)) (.slice (some ⟨wr.heap.size+1,0,none⟩) 1 1) ([[102,105,110,100]].map sV)):=Lib.hid (kLq (kFz _ _ _) 1 _ (fun j u hj=>by simpa [sV] using hj))
    clear u5 u6 hw5
    go_wp2_with fail
    refine (HPT.out _ _ [[102,105,110,100]] _ HW6.out HY6.out (by simp only [List.length_append,List.length_cons,List.length_nil];have h1:=HFL.out 0;have h2:=HLEN.out;omega)).mono ?_
    rintro e w7 ⟨rfl,hw7,hk7⟩
    have HW7:=Lib.hid hw7
    have K7:=Lib.hid (hk7.2 _ _ K5.out)
    have KB7:=Lib.hid (hk7.2 _ _ KB6.out)
    have HK7:=Lib.hid (HK6.out.trans hk7)
    clear hw7 hk7 HW6 HY6 K5 KB6 HK6
    have hk7b:=K7.out.1
    have x0:=kAz hk7b 0
    have x1c:=kAz hk7b 1
    simp only [List.getElem?_toArray,List.getElem?_cons_zero,List.getElem?_cons_succ] at x0 x1c
    have e0:=fun u:Ext w7=>u.cell x0
    have e1:=fun u:Ext w7=>u.cell x1c
    clear hk7b
    go_wp2_with fail
    clear x0 x1c
    refine kFk [3,6] [] [0,1,2,3,4,5,6] [7] 7 (by kernel_rfl) (by kernel_rfl) (by kernel_rfl) ?_
    iterate 3 (refine kCq rfl rfl rfl rfl rfl ?_;intro K' hK';go_big_quiet_op;go_big_quiet_on)
    refine kMw rfl rfl rfl rfl (fun w=>by go_simp) (fun w' hu hd=>HSN.out x2 w' (HW7.out.up.trans_ext hu)) ?_
    simp only [Act.put,List.setIfInBounds_toArray,List.set_cons_zero,List.set_cons_succ]
    iterate 2 (refine kCq rfl rfl rfl rfl rfl ?_;intro K' hK';go_big_quiet_op;go_big_quiet_on)
    refine kYw (Y:=Nat) (fun b=>.slice (some ⟨b,0,none⟩) 2 2) (fun b u=>u.heap[b]?=some (.cells #[.string ⟨(kOj x2).toArray⟩,.string ⟨x1.toArray⟩] 9 (0,0))) (fun _=>[]) rfl rfl rfl rfl (fun _ _ _ h hu=>hu.at h (by simp)) (fun _=>List.nodup_nil) (fun w' post hu hd hp=>(congrArg (kNj Tryz.prog post) (show _=Result.ok (Next.value (.slice (some ⟨w'.heap.size,0,none⟩) 2 2)) (w'.alloc (.cells #[.string ⟨(kOj x2).toArray⟩,.string ⟨x1.toArray⟩] 9)) from by go_simp)).mpr (hp w'.heap.size _ ((Upto.refl [] w').alloc _) (kAq _ _) (fun b hb=>by cases hb))) ?_
    intro b8
    simp only [Act.put,List.setIfInBounds_toArray,List.set_cons_zero,List.set_cons_succ]
    intro w9 hg
    have HG:=Lib.hid hg.up
    have HY9:Hid (SlC w9 (.slice (some ⟨b8,0,none⟩) 2 2) ([kOj x2,x1].map sV)):=Lib.hid (kLq hg.hold.1 2 _ (fun j u hj=>by simpa [sV] using hj))
    simp only [List.drop_succ_cons,List.drop_zero]
    clear hg e0 e1
    go_wp2_with fail
    refine (HPT.out _ _ [kOj x2,x1] _ (HW7.out.ext HG.out) HY9.out (by simp only [List.length_append,List.length_cons,List.length_nil];have h1:=HFL.out 0;have h2:=HLEN.out;omega)).mono ?_
    rintro e w8 ⟨rfl,hw8,hk8⟩
    have HW8:=Lib.hid hw8
    have KB8:=Lib.hid (hk8.2 _ _ ((HW7.out.keep HG.out).2 _ _ KB7.out))
    have HK8:=Lib.hid ((HK7.out.trans (HW7.out.keep HG.out)).trans hk8)
    clear hw8 hk8
    go_wp2_with fail
    go_roundw
    case rel=>exact⟨1,by omega,by go_num,Lib.hid (by have:=HW8.out;rw [HFE.out];simpa using this),KB8,HK8⟩
    case measure=>simp [intOf];omega
   ·have hzI:((j:Int)==0)=false:=by rw [beq_eq_false_iff_ne];omega
    have HFE:Hid (fiT (f.take (j+1))=fiT (f.take j)++[[44]]++[kOj x2,x1]):=Lib.hid (by
     have hne:f.take j≠[]:=fun h=>by
      have:=congrArg List.length h
      rw [List.length_take,HL.out,List.length_nil] at this
      omega
     rw [HT.out,fiT_snoc hne,HSW.out])
    clear hx HT HSW hz
    have u5:Upto [] wr (wr.alloc (.cells #[.string ⟨x1.toArray⟩,.int .i64 x2] 86)):=(Upto.refl [] _).alloc _
    have u6:Upto [] (wr.alloc (.cells #[.string ⟨x1.toArray⟩,.int .i64 x2] 86)) ((wr.alloc (.cells #[.string ⟨x1.toArray⟩,.int .i64 x2] 86)).alloc (.cells #[.string ⟨#[44]⟩] 9)):=(Upto.refl [] _).alloc _
    have hw5:=HW.out.ext u5
    have HW6:=Lib.hid (hw5.ext u6)
    have K5:=Lib.hid ((hw5.keep u6).2 _ _ (HW.out.fresh #[.string ⟨x1.toArray⟩,.int .i64 x2] 86))
    have KB6:=Lib.hid ((hw5.keep u6).2 _ _ ((HW.out.keep u5).2 _ _ HKB.out))
    have HK6:=Lib.hid ((HK.out.trans (HW.out.keep u5)).trans (hw5.keep u6))
    have HY6:Hid (SlC ((wr.alloc (.cells #[.string ⟨x1.toArray⟩,.int .i64 x2] 86)).alloc (.cells #[.string ⟨#[44]⟩] 9)) (.slice (some ⟨wr.heap.size+1,0,none⟩) 1 1) ([[44]].map sV)):=Lib.hid (kLq (kFz _ _ _) 1 _ (fun j u hj=>by simpa [sV] using hj))
    clear u5 u6 hw5
    go_wp2_with fail
    refine (HPT.out _ _ [[44]] _ HW6.out HY6.out (by simp only [List.length_append,List.length_cons,List.length_nil];have h1:=HFL.out j;have h2:=HLEN.out;omega)).mono ?_
    rintro e w7 ⟨rfl,hw7,hk7⟩
    have HW7:=Lib.hid hw7
    have K7:=Lib.hid (hk7.2 _ _ K5.out)
    have KB7:=Lib.hid (hk7.2 _ _ KB6.out)
    have HK7:=Lib.hid (HK6.out.trans hk7)
    clear hw7 hk7 HW6 HY6 K5 KB6 HK6
    have hk7b:=K7.out.1
    have x0:=kAz hk7b 0
    have x1c:=kAz hk7b 1
    simp only [List.getElem?_toArray,List.getElem?_cons_zero,List.getElem?_cons_succ] at x0 x1c
    have e0:=fun u:Ext w7=>u.cell x0
    have e1:=fun u:Ext w7=>u.cell x1c
    clear hk7b
    go_wp2_with fail
    clear x0 x1c
    refine kFk [3,6] [] [0,1,2,3,4,5,6] [7] 7 (by kernel_rfl) (by kernel_rfl) (by kernel_rfl) ?_
    iterate 3 (refine kCq rfl rfl rfl rfl rfl ?_;intro K' hK';go_big_quiet_op;go_big_quiet_on)
    refine kMw rfl rfl rfl rfl (fun w=>by go_simp) (fun w' hu hd=>HSN.out x2 w' (HW7.out.up.trans_ext hu)) ?_
    simp only [Act.put,List.setIfInBounds_toArray,List.set_cons_zero,List.set_cons_succ]
    iterate 2 (refine kCq rfl rfl rfl rfl rfl ?_;intro K' hK';go_big_quiet_op;go_big_quiet_on)
    refine kYw (Y:=Nat) (fun b=>.slice (some ⟨b,0,none⟩) 2 2) (fun b u=>u.heap[b]?=some (.cells #[.string ⟨(kOj x2).toArray⟩,.string ⟨x1.toArray⟩] 9 (0,0))) (fun _=>[]) rfl rfl rfl rfl (fun _ _ _ h hu=>hu.at h (by simp)) (fun _=>List.nodup_nil) (fun w' post hu hd hp=>(congrArg (kNj Tryz.prog post) (show _=Result.ok (Next.value (.slice (some ⟨w'.heap.size,0,none⟩) 2 2)) (w'.alloc (.cells #[.string ⟨(kOj x2).toArray⟩,.string ⟨x1.toArray⟩] 9)) from by go_simp)).mpr (hp w'.heap.size _ ((Upto.refl [] w').alloc _) (kAq _ _) (fun b hb=>by cases hb))) ?_
    intro b8
    simp only [Act.put,List.setIfInBounds_toArray,List.set_cons_zero,List.set_cons_succ]
    intro w9 hg
    have HG:=Lib.hid hg.up
    have HY9:Hid (SlC w9 (.slice (some ⟨b8,0,none⟩) 2 2) ([kOj x2,x1].map sV)):=Lib.hid (kLq hg.hold.1 2 _ (fun j u hj=>by simpa [sV] using hj))
    simp only [List.drop_succ_cons,List.drop_zero]
    clear hg e0 e1
    go_wp2_with fail
    refine (HPT.out _ _ [kOj x2,x1] _ (HW7.out.ext HG.out) HY9.out (by simp only [List.length_append,List.length_cons,List.length_nil];have h1:=HFL.out j;have h2:=HLEN.out;omega)).mono ?_
    rintro e w8 ⟨rfl,hw8,hk8⟩
    have HW8:=Lib.hid hw8
    have KB8:=Lib.hid (hk8.2 _ _ ((HW7.out.keep HG.out).2 _ _ KB7.out))
    have HK8:=Lib.hid ((HK7.out.trans (HW7.out.keep HG.out)).trans hk8)
    clear hw8 hk8
    go_wp2_with fail
    go_roundw
    case rel=>exact⟨j+1,by omega,by go_num,Lib.hid (by have:=HW8.out;rw [HFE.out];simpa using this),KB8,HK8⟩
    case measure=>simp [intOf];omega
  ·have hgeI:¬(j:Int)<L:=by omega
   have HTA:Hid (f.take j=f):=Lib.hid (List.take_of_length_le (by rw [HL.out];exact hge))
   have hb:=HKB.out.1
   obtain⟨y0,y1,y2,y3,y4,y5,y6⟩:=kBw hb
   by_cases hz:L=0
   ·have HFN:Hid (f=[]):=Lib.hid (List.eq_nil_of_length_eq_zero (by rw [HL.out];exact hz))
    subst hz
    clear hb
    go_wp2_with fail
    refine bodyPost_end (v:=.tuple #[]) (by simp [results,Tryz.results70,go_sem]) rfl ⟨rfl,?_,HK.out⟩
    have:=HW.out
    rw [HTA.out,HFN.out] at this
    rw [HFN.out]
    exact this
   ·have hzI:(0:Int)<L:=by omega
    have HFN:Hid (f≠[]):=Lib.hid (fun h=>by have:=HL.out;rw [h] at this;exact hz this.symm)
    have u5:Upto [] wr (wr.alloc (.cells #[.string ⟨#[58]⟩] 9)):=(Upto.refl [] _).alloc _
    have HW6:=Lib.hid (HW.out.ext u5)
    have HK6:=Lib.hid (HK.out.trans (HW.out.keep u5))
    have HY6:Hid (SlC (wr.alloc (.cells #[.string ⟨#[58]⟩] 9)) (.slice (some ⟨wr.heap.size,0,none⟩) 1 1) ([[58]].map sV)):=Lib.hid (kLq (kAq _ _) 1 _ (fun j u hj=>by simpa [sV] using hj))
    clear u5 hb hz
    go_wp2_with fail
    refine (HPT.out _ _ [[58]] _ HW6.out HY6.out (by simp only [List.length_append,List.length_cons,List.length_nil];have h1:=HFL.out j;have h2:=HLEN.out;omega)).mono ?_
    rintro e w7 ⟨rfl,hw7,hk7⟩
    have HW7:=Lib.hid hw7
    have HK7:=Lib.hid (HK6.out.trans hk7)
    clear hw7 hk7
    go_wp2_with fail
    refine bodyPost_end (v:=.tuple #[]) (by simp [results,Tryz.results70,go_sem]) rfl ⟨rfl,?_,HK7.out⟩
    have:=HW7.out
    rw [HTA.out] at this
    rw [←fiT_free,if_neg HFN.out]
    simpa using this
def NodeP (w0:World) (p:Nat) (nd:Nd) (v:Value):Prop:=∀(last:Bool) (w:World) (ts:List (List UInt8)),WrI w0 w p ts→ts.length+(prT last nd).length≤1000000000000→Calls Tryz.prog 71 #[.pointer (some ⟨p,0,none⟩),v,.bool last] w fun e w'=>e=.returned (.tuple #[])∧WrI w0 w' p (ts++txs (prT last nd))∧WrK w w' p
theorem poperand_calls (op so nn mm:Int) (b1:Option Addr) (b2 b3:Nat) (d1:Option Addr) (d2 d3:Nat) (w0:World) (p:Nat) (nd:Nd) (least:Int) (last b:Bool) (w:World) (ts:List (List UInt8)) (hN:NodeP w0 p nd (.agg #[.int .i64 op,.slice b1 b2 b3,.int .i64 so,.int .i64 nn,.int .i64 mm,.slice d1 d2 d3])) (h0:0≤op) (h1:op≤17) (hb:(decide (strI op<least)||(decide (15<op)&&!last))=b) (hW:WrI w0 w p ts) (hPE:∀u,Upto [] w0 u→PEnv u)
  (hlen:ts.length+(parT b (prT true nd) (prT last nd)).length≤1000000000000):Calls Tryz.prog 107 #[.pointer (some ⟨p,0,none⟩),.agg #[.int .i64 op,.slice b1 b2 b3,.int .i64 so,.int .i64 nn,.int .i64 mm,.slice d1 d2 d3],.int .i64 least,.bool last] w fun e w'=>e=.returned (.tuple #[])∧WrI w0 w' p (ts++txs (parT b (prT true nd) (prT last nd)))∧WrK w w' p:=by
 have HB1:=Lib.hid (hW.fresh #[.int .i64 op,.slice b1 b2 b3,.int .i64 so,.int .i64 nn,.int .i64 mm,.slice d1 d2 d3] 34)
 have hua:Upto [] w (w.alloc (.cells #[.int .i64 op,.slice b1 b2 b3,.int .i64 so,.int .i64 nn,.int .i64 mm,.slice d1 d2 d3] 34)):=(Upto.refl [] w).alloc _
 have HW1:=Lib.hid (hW.ext hua)
 have HK1:=Lib.hid (hW.keep hua)
 have HST:=Lib.hid (fun u (hu:WrI w0 u p ts)=>kTq op so nn mm b1 b2 b3 d1 d2 d3 u (hPE u hu.up) h0 h1)
 have HBD:=Lib.hid (fun u=>kUq op so nn mm b1 b2 b3 d1 d2 d3 u h1)
 by_cases c1:strI op<least
 ·have hb1:b=true:=by rw [←hb];simp [c1]
  subst hb1
  have hlen2:ts.length+((prT true nd).length+2)≤1000000000000:=by
   have:(parT true (prT true nd) (prT last nd)).length=(prT true nd).length+2:=by simp [parT]
   omega
  have HP:=Lib.hid (fun W (hW:WrI w0 W p ts)=>kXq w0 (W.alloc (.cells #[.string ⟨#[40]⟩] 9)) p ts [[40]] (.slice (some ⟨W.heap.size,0,none⟩) 1 1) (hW.ext ((Upto.refl [] W).alloc _)) (kLq (kAq W (.cells #[.string ⟨#[40]⟩] 9)) 1 [sV [40]] (fun j u hj=>by simpa [sV] using hj)) (by simp;omega))
  have HQ:=Lib.hid (fun W (hW:WrI w0 W p (ts++[[40]]++txs (prT true nd)))=>kXq w0 (W.alloc (.cells #[.string ⟨#[41]⟩] 9)) p (ts++[[40]]++txs (prT true nd)) [[41]] (.slice (some ⟨W.heap.size,0,none⟩) 1 1) (hW.ext ((Upto.refl [] W).alloc _)) (kLq (kAq W (.cells #[.string ⟨#[41]⟩] 9)) 1 [sV [41]] (fun j u hj=>by simpa [sV] using hj)) (by simp [txs_len];omega))
  have HNN:=Lib.hid (fun W (hW:WrI w0 W p (ts++[[40]]))=>hN true W (ts++[[40]]) hW (by simp;omega))
  have HFIN:Hid (ts++[[40]]++txs (prT true nd)++[[41]]=ts++txs (parT true (prT true nd) (prT last nd))):=Lib.hid (by rw [txs_par];simp)
  have c1I:¬(least≤strI op):=by omega
  have HSV:Hid (strI op=strI op):=Lib.hid rfl
  generalize strI op=st at *
  clear hN hW hua hPE hlen hlen2 hb c1
  go_enter Tryz.func107,Tryz.ntmps107
  go_wp2_with fail
  refine (HST.out _ HW1.out).mono ?_
  rintro e w5 ⟨rfl,hu5⟩
  have HW5:=Lib.hid (HW1.out.ext hu5)
  have HX5:=Lib.hid (HW1.out.keep hu5)
  have HK5:=Lib.hid (HK1.out.trans HX5.out)
  have HB5:=Lib.hid (HX5.out.2 _ _ HB1.out)
  clear hu5
  go_wp2_with fail
  refine (HP.out _ HW5.out).mono ?_
  rintro e w7 ⟨rfl,hw7,hk7⟩
  have HX:=Lib.hid (WrK.trans (HW5.out.keep ((Upto.refl [] w5).alloc (.cells #[.string ⟨#[40]⟩] 9))) hk7)
  have HW7:=Lib.hid hw7
  have HK7:=Lib.hid (HK5.out.trans HX.out)
  have hb7:=(HX.out.2 _ _ HB5.out)
  have HB7:=Lib.hid hb7
  have hc7:=hb7.1
  obtain⟨z0,z1,z2,z3,z4,z5⟩:=kAx hc7
  clear hw7 hk7 hb7 hc7
  go_wp2_with fail
  refine (HNN.out _ HW7.out).mono ?_
  rintro e w8 ⟨rfl,hw8,hk8⟩
  have HW8:=Lib.hid hw8
  have HK8:=Lib.hid (HK7.out.trans hk8)
  clear hw8 hk8
  go_wp2_with fail
  refine (HQ.out _ HW8.out).mono ?_
  rintro e w9 ⟨rfl,hw9,hk9⟩
  have HK9:=Lib.hid (HK8.out.trans (WrK.trans (HW8.out.keep ((Upto.refl [] w8).alloc (.cells #[.string ⟨#[41]⟩] 9))) hk9))
  have HW9:=Lib.hid hw9
  clear hw9 hk9
  go_wp2_with fail
  exact bodyPost_end (v:=.tuple #[]) (by simp [results,Tryz.results107,go_sem]) rfl ⟨rfl,by rw [←HFIN.out];exact HW9.out,HK9.out⟩
 have c1I:least≤strI op:=by omega
 cases last with
 | true =>
  have hb1:b=false:=by rw [←hb];simp;omega
  subst hb1
  have HNN:=Lib.hid (fun W (hW:WrI w0 W p ts)=>hN true W ts hW (by have:(parT false (prT true nd) (prT true nd)).length=(prT true nd).length:=rfl;omega))
  have HFIN:Hid (txs (parT false (prT true nd) (prT true nd))=txs (prT true nd)):=Lib.hid rfl
  rw [HFIN.out]
  generalize strI op=st at *
  clear hN hW hua hPE hlen hb c1
  go_enter Tryz.func107,Tryz.ntmps107
  go_wp2_with fail
  refine (HST.out _ HW1.out).mono ?_
  rintro e w5 ⟨rfl,hu5⟩
  have HW5:=Lib.hid (HW1.out.ext hu5)
  have HX5:=Lib.hid (HW1.out.keep hu5)
  have HK5:=Lib.hid (HK1.out.trans HX5.out)
  have hb5:=(HX5.out.2 _ _ HB1.out).1
  obtain⟨y0,y1,y2,y3,y4,y5⟩:=kAx hb5
  clear hu5 hb5
  go_wp2_with fail
  refine (HNN.out _ HW5.out).mono ?_
  rintro e w8 ⟨rfl,hw8,hk8⟩
  have HW8:=Lib.hid hw8
  have HK8:=Lib.hid (HK5.out.trans hk8)
  clear hw8 hk8
  go_wp2_with fail
  exact bodyPost_ret (v:=.tuple #[]) (by simp [results,Tryz.results107,go_sem]) rfl ⟨rfl,HW8.out,HK8.out⟩
 | false =>
  by_cases c2:15<op
  ·have hb1:b=true:=by rw [←hb];simp [c2]
   subst hb1
   have hlen2:ts.length+((prT true nd).length+2)≤1000000000000:=by
    have:(parT true (prT true nd) (prT false nd)).length=(prT true nd).length+2:=by simp [parT]
    omega
   have HP:=Lib.hid (fun W (hW:WrI w0 W p ts)=>kXq w0 (W.alloc (.cells #[.string ⟨#[40]⟩] 9)) p ts [[40]] (.slice (some ⟨W.heap.size,0,none⟩) 1 1) (hW.ext ((Upto.refl [] W).alloc _)) (kLq (kAq W (.cells #[.string ⟨#[40]⟩] 9)) 1 [sV [40]] (fun j u hj=>by simpa [sV] using hj)) (by simp;omega))
   have HQ:=Lib.hid (fun W (hW:WrI w0 W p (ts++[[40]]++txs (prT true nd)))=>kXq w0 (W.alloc (.cells #[.string ⟨#[41]⟩] 9)) p (ts++[[40]]++txs (prT true nd)) [[41]] (.slice (some ⟨W.heap.size,0,none⟩) 1 1) (hW.ext ((Upto.refl [] W).alloc _)) (kLq (kAq W (.cells #[.string ⟨#[41]⟩] 9)) 1 [sV [41]] (fun j u hj=>by simpa [sV] using hj)) (by simp [txs_len];omega))
   have HNN:=Lib.hid (fun W (hW:WrI w0 W p (ts++[[40]]))=>hN true W (ts++[[40]]) hW (by simp;omega))
   have HFIN:Hid (ts++[[40]]++txs (prT true nd)++[[41]]=ts++txs (parT true (prT true nd) (prT false nd))):=Lib.hid (by rw [txs_par];simp)
   have HBD2:=Lib.hid (fun u=>by have:=HBD.out u;rwa [decide_eq_true c2] at this)
   generalize strI op=st at *
   clear hN hW hua hPE hlen hlen2 hb c1 c2
   go_enter Tryz.func107,Tryz.ntmps107
   go_wp2_with fail
   refine (HST.out _ HW1.out).mono ?_
   rintro e w5 ⟨rfl,hu5⟩
   have HW5:=Lib.hid (HW1.out.ext hu5)
   have HX5:=Lib.hid (HW1.out.keep hu5)
   have HK5:=Lib.hid (HK1.out.trans HX5.out)
   have HB5:=Lib.hid (HX5.out.2 _ _ HB1.out)
   have hb5:=HB5.out.1
   obtain⟨y0,y1,y2,y3,y4,y5⟩:=kAx hb5
   clear hu5 hb5
   go_wp2_with fail
   refine (HBD2.out _).mono ?_
   rintro e w6 ⟨rfl,hu6⟩
   have HW6:=Lib.hid (HW5.out.ext hu6)
   have HX6:=Lib.hid (HW5.out.keep hu6)
   have HK6:=Lib.hid (HK5.out.trans HX6.out)
   have HB6:=Lib.hid (HX6.out.2 _ _ HB5.out)
   clear hu6
   go_wp2_with fail
   refine (HP.out _ HW6.out).mono ?_
   rintro e w7 ⟨rfl,hw7,hk7⟩
   have HX:=Lib.hid (WrK.trans (HW6.out.keep ((Upto.refl [] w6).alloc (.cells #[.string ⟨#[40]⟩] 9))) hk7)
   have HW7:=Lib.hid hw7
   have HK7:=Lib.hid (HK6.out.trans HX.out)
   have hb7:=(HX.out.2 _ _ HB6.out)
   have HB7:=Lib.hid hb7
   have hc7:=hb7.1
   obtain⟨z0,z1,z2,z3,z4,z5⟩:=kAx hc7
   clear hw7 hk7 hb7 hc7
   go_wp2_with fail
   refine (HNN.out _ HW7.out).mono ?_
   rintro e w8 ⟨rfl,hw8,hk8⟩
   have HW8:=Lib.hid hw8
   have HK8:=Lib.hid (HK7.out.trans hk8)
   clear hw8 hk8
   go_wp2_with fail
   refine (HQ.out _ HW8.out).mono ?_
   rintro e w9 ⟨rfl,hw9,hk9⟩
   have HK9:=Lib.hid (HK8.out.trans (WrK.trans (HW8.out.keep ((Upto.refl [] w8).alloc (.cells #[.string ⟨#[41]⟩] 9))) hk9))
   have HW9:=Lib.hid hw9
   clear hw9 hk9
   go_wp2_with fail
   exact bodyPost_end (v:=.tuple #[]) (by simp [results,Tryz.results107,go_sem]) rfl ⟨rfl,by rw [←HFIN.out];exact HW9.out,HK9.out⟩
  ·have hb1:b=false:=by rw [←hb];simp [c2];omega
   subst hb1
   have HNN:=Lib.hid (fun W (hW:WrI w0 W p ts)=>hN false W ts hW (by have:(parT false (prT true nd) (prT false nd)).length=(prT false nd).length:=rfl;omega))
   have HFIN:Hid (txs (parT false (prT true nd) (prT false nd))=txs (prT false nd)):=Lib.hid rfl
   rw [HFIN.out]
   have HBD2:=Lib.hid (fun u=>by have:=HBD.out u;rwa [decide_eq_false c2] at this)
   generalize strI op=st at *
   clear hN hW hua hPE hlen hb c1 c2
   go_enter Tryz.func107,Tryz.ntmps107
   go_wp2_with fail
   refine (HST.out _ HW1.out).mono ?_
   rintro e w5 ⟨rfl,hu5⟩
   have HW5:=Lib.hid (HW1.out.ext hu5)
   have HX5:=Lib.hid (HW1.out.keep hu5)
   have HK5:=Lib.hid (HK1.out.trans HX5.out)
   have HB5:=Lib.hid (HX5.out.2 _ _ HB1.out)
   have hb5:=HB5.out.1
   obtain⟨y0,y1,y2,y3,y4,y5⟩:=kAx hb5
   clear hu5 hb5
   go_wp2_with fail
   refine (HBD2.out _).mono ?_
   rintro e w6 ⟨rfl,hu6⟩
   have HW6:=Lib.hid (HW5.out.ext hu6)
   have HX6:=Lib.hid (HW5.out.keep hu6)
   have HK6:=Lib.hid (HK5.out.trans HX6.out)
   have hb6:=(HX6.out.2 _ _ HB5.out).1
   obtain⟨x0,x1,x2,x3,x4,x5⟩:=kAx hb6
   clear hu6 hb6 y0 y1 y2 y3 y4 y5
   go_wp2_with fail
   refine (HNN.out _ HW6.out).mono ?_
   rintro e w8 ⟨rfl,hw8,hk8⟩
   have HW8:=Lib.hid hw8
   have HK8:=Lib.hid (HK6.out.trans hk8)
   clear hw8 hk8
   go_wp2_with fail
   exact bodyPost_ret (v:=.tuple #[]) (by simp [results,Tryz.results107,go_sem]) rfl ⟨rfl,HW8.out,HK8.out⟩
theorem prT_atom {op so n m:Int} {names:List (List UInt8)} {l:List Nd} (last:Bool) (h:op<11):prT last (.mk op names so n m l)=kIk op names n m:=by rw [prT,if_pos h]
theorem prT_not {so n m:Int} {names:List (List UInt8)} {x:Nd} (last:Bool):prT last (.mk 11 names so n m [x])=kyT [110,111,116]::parT (parB 11 0 (opF x) last) (prT true x) (prT last x):=by
 rw [prT,if_neg (by decide)]
 simp [prsT,opNd]
theorem prT_bin {op so n m:Int} {names:List (List UInt8)} {x y:Nd} (last:Bool) (h1:12≤op) (h2:op<16):prT last (.mk op names so n m [x,y])=parT (parB op 0 (opF x) false) (prT true x) (prT false x)++kyT (conW op)::parT (parB op 1 (opF y) last) (prT true y) (prT last y):=by
 rw [prT,if_neg (by omega),if_neg (by omega),if_pos h2]
 simp [prsT,opNd]
theorem prT_qu {op so n m:Int} {names:List (List UInt8)} {x:Nd} (last:Bool) (h1:16≤op):prT last (.mk op names so n m [x])=kyT (quW op)::kyT (kDj.getD so.toNat [])::idT (names.getD 0 [])::puT 58::prT true x:=by
 rw [prT,if_neg (by omega),if_neg (by omega),if_neg (by omega)]
 simp [prsT]
theorem WrI.cell {w0 w:World} {p:Nat} {ts:List (List UInt8)} (h:WrI w0 w p ts) {a:Addr} {v:Value} (hc:w0.cell? a=some v):w.cell? a=some v:=(h.up.cell (World.block_lt_of_cell? w0 _ hc) (by simp)).trans hc
theorem two_calls (w0 w:World) (p:Nat) (ts:List (List UInt8)) (k:Nat) (so nn mm:Int) (b1:Option Addr) (b2 b3:Nat) (x y:Nd) (g o lc:Nat) (xo:Int) (xn1:Option Addr) (xn2 xn3:Nat) (xs xm xq:Int) (xl1:Option Addr) (xl2 xl3:Nat) (yo:Int) (yn1:Option Addr) (yn2 yn3:Nat) (ys ym yq:Int) (yl1:Option Addr) (yl2 yl3:Nat) (last:Bool) (B3 B4 B5:Nat) (first second:Int) (W:List UInt8) (hW:WrI w0 w p ts)
  (k3:Kp w p B3 (.cells #[.pointer (some ⟨p,0,none⟩)] 99 (0,0))) (k4:Kp w p B4 (.cells #[.int .i64 (k:Int),.slice b1 b2 b3,.int .i64 so,.int .i64 nn,.int .i64 mm,.slice (some ⟨g,o,none⟩) 2 lc] 34 (0,0))) (k5:Kp w p B5 (.cells #[.bool last] 4 (0,0)))
  (hx0:w0.cell? ⟨g,o,none⟩=some (.int .i64 xo)) (hx1:w0.cell? ⟨g,o+1,none⟩=some (.slice xn1 xn2 xn3)) (hx2:w0.cell? ⟨g,o+2,none⟩=some (.int .i64 xs)) (hx3:w0.cell? ⟨g,o+3,none⟩=some (.int .i64 xm)) (hx4:w0.cell? ⟨g,o+4,none⟩=some (.int .i64 xq)) (hx5:w0.cell? ⟨g,o+5,none⟩=some (.slice xl1 xl2 xl3))
  (hy0:w0.cell? ⟨g,o+6,none⟩=some (.int .i64 yo)) (hy1:w0.cell? ⟨g,o+6+1,none⟩=some (.slice yn1 yn2 yn3)) (hy2:w0.cell? ⟨g,o+6+2,none⟩=some (.int .i64 ys)) (hy3:w0.cell? ⟨g,o+6+3,none⟩=some (.int .i64 ym)) (hy4:w0.cell? ⟨g,o+6+4,none⟩=some (.int .i64 yq)) (hy5:w0.cell? ⟨g,o+6+5,none⟩=some (.slice yl1 yl2 yl3))
  (hNx:NodeP w0 p x (.agg #[.int .i64 xo,.slice xn1 xn2 xn3,.int .i64 xs,.int .i64 xm,.int .i64 xq,.slice xl1 xl2 xl3])) (hNy:NodeP w0 p y (.agg #[.int .i64 yo,.slice yn1 yn2 yn3,.int .i64 ys,.int .i64 ym,.int .i64 yq,.slice yl1 yl2 yl3])) (hxo:0≤xo∧xo≤17) (hyo:0≤yo∧yo≤17) (hPE:∀u,Upto [] w0 u→PEnv u) (hk:k<18) (hw:pwordL[k]?=some W)
  (bx bz:Bool) (hbx:(decide (strI xo<first)||(decide (15<xo)&&!false))=bx) (hbz:(decide (strI yo<second)||(decide (15<yo)&&!last))=bz)
  (hlen:ts.length+(parT bx (prT true x) (prT false x)).length+1+(parT bz (prT true y) (prT last y)).length≤1000000000000) :
  Calls Tryz.prog 106 #[.int .i64 first,.int .i64 second,.pointer (some ⟨B3,0,none⟩),.pointer (some ⟨B4,0,none⟩),.pointer (some ⟨B5,0,none⟩)] w fun e w'=>e=.returned (.tuple #[])∧WrI w0 w' p (ts++txs (parT bx (prT true x) (prT false x))++[W]++txs (parT bz (prT true y) (prT last y)))∧WrK w w' p:=by
 have HA:=Lib.hid (fun u (hu:WrI w0 u p ts)=>poperand_calls xo xs xm xq xn1 xn2 xn3 xl1 xl2 xl3 w0 p x first false bx u ts hNx hxo.1 hxo.2 hbx hu hPE (by omega))
 have HP:=Lib.hid (fun u yy (hu:WrI w0 u p (ts++txs (parT bx (prT true x) (prT false x)))) (hy:SlC u yy ([W].map sV))=>kXq w0 u p (ts++txs (parT bx (prT true x) (prT false x))) [W] yy hu hy (by rw [List.length_append,txs_len];simp;omega))
 have HC:=Lib.hid (fun u (hu:WrI w0 u p (ts++txs (parT bx (prT true x) (prT false x))++[W]))=>poperand_calls yo ys ym yq yn1 yn2 yn3 yl1 yl2 yl3 w0 p y second last bz u _ hNy hyo.1 hyo.2 hbz hu hPE (by rw [List.length_append,List.length_append,txs_len];simp;omega))
 have HPW:=Lib.hid (fun u (hu:Upto [] w0 u)=>(hPE u hu).word k W hw)
 have HKX:=Lib.hid (And.intro k3 (And.intro k4 k5))
 have HWW:=Lib.hid hW
 have HCX:=Lib.hid (And.intro hx0 (And.intro hx1 (And.intro hx2 (And.intro hx3 (And.intro hx4 hx5)))))
 have HCY:=Lib.hid (And.intro hy0 (And.intro hy1 (And.intro hy2 (And.intro hy3 (And.intro hy4 hy5)))))
 have hk0:(0:Int)≤k:=by omega
 have hk1:(k:Int)<18:=by omega
 have h3:=kAz k3.1 0
 have h4:=kAz k4.1 5
 simp only [List.getElem?_toArray,List.getElem?_cons_zero,List.getElem?_cons_succ] at h3 h4
 have cx0:=HWW.out.cell HCX.out.1
 have cx1:=HWW.out.cell HCX.out.2.1
 have cx2:=HWW.out.cell HCX.out.2.2.1
 have cx3:=HWW.out.cell HCX.out.2.2.2.1
 have cx4:=HWW.out.cell HCX.out.2.2.2.2.1
 have cx5:=HWW.out.cell HCX.out.2.2.2.2.2
 have e3:=fun u:Ext w=>u.cell h3
 have e4:=fun u:Ext w=>u.cell h4
 have ex0:=fun u:Ext w=>u.cell cx0
 have ex1:=fun u:Ext w=>u.cell cx1
 have ex2:=fun u:Ext w=>u.cell cx2
 have ex3:=fun u:Ext w=>u.cell cx3
 have ex4:=fun u:Ext w=>u.cell cx4
 have ex5:=fun u:Ext w=>u.cell cx5
 clear hW k3 k4 k5 hx0 hx1 hx2 hx3 hx4 hx5 hy0 hy1 hy2 hy3 hy4 hy5 hNx hNy hPE hw hbx hbz hlen h3 h4 cx0 cx1 cx2 cx3 cx4 cx5 hk
 go_enter Tryz.func106,Tryz.ntmps106
 go_wp2_with fail
 refine kFk [] [] [0,1,2,3,4,5] [6] 6 (by kernel_rfl) (by kernel_rfl) (by kernel_rfl) ?_
 iterate 6 (refine kCq rfl rfl rfl rfl rfl ?_;intro K' hK';go_big_quiet_op;go_big_quiet_on)
 intro w9 hg
 have HG:=Lib.hid hg.up
 simp only [List.drop_succ_cons,List.drop_zero]
 clear hg
 go_wp2_with fail
 refine (HA.out _ (HWW.out.ext HG.out)).mono ?_
 rintro e w5 ⟨rfl,hw5,hk5⟩
 have HW5:=Lib.hid hw5
 have HK5:=Lib.hid (WrK.trans (HWW.out.keep HG.out) hk5)
 have h3:=kAz (HK5.out.2 _ _ HKX.out.1).1 0
 have h4:=kAz (HK5.out.2 _ _ HKX.out.2.1).1 0
 simp only [List.getElem?_toArray,List.getElem?_cons_zero] at h3 h4
 have hpw:=HPW.out _ hw5.up
 have p3:=fun u:Ext w5=>u.cell h3
 have p4:=fun u:Ext w5=>u.cell h4
 have pw:=fun u:Ext w5=>u.cell hpw
 clear hw5 hk5 HG h3 h4 hpw e3 e4 ex0 ex1 ex2 ex3 ex4 ex5
 go_wp2_with fail
 refine kFk [5] [] [0,1,2,3,4,5] [6] 6 (by kernel_rfl) (by kernel_rfl) (by kernel_rfl) ?_
 iterate 5 (refine kCq rfl rfl rfl rfl rfl ?_;intro K' hK';go_big_quiet_op;go_big_quiet_on)
 refine kYw (Y:=Nat) (fun b=>.slice (some ⟨b,0,none⟩) 1 1) (fun b u=>u.heap[b]?=some (.cells #[.string ⟨W.toArray⟩] 9 (0,0))) (fun _=>[]) rfl rfl rfl rfl (fun _ _ _ h hu=>hu.at h (by simp)) (fun _=>List.nodup_nil) (fun w' post hu hd hp=>(congrArg (kNj Tryz.prog post) (show _=Result.ok (Next.value (.slice (some ⟨w'.heap.size,0,none⟩) 1 1)) (w'.alloc (.cells #[.string ⟨W.toArray⟩] 9)) from by go_simp)).mpr (hp w'.heap.size _ ((Upto.refl [] w').alloc _) (kAq _ _) (fun b hb=>by cases hb))) ?_
 intro b8
 simp only [Act.put,List.setIfInBounds_toArray,List.set_cons_zero,List.set_cons_succ]
 intro w10 hg
 have HG:=Lib.hid hg.up
 have HB8:Hid (w10.heap[b8]?=some (.cells #[.string ⟨W.toArray⟩] 9 (0,0))):=Lib.hid hg.hold.1
 simp only [List.drop_succ_cons,List.drop_zero]
 clear hg
 go_wp2_with fail
 refine (HP.out _ _ (HW5.out.ext HG.out) (kLq HB8.out 1 [sV W] (fun j u hj=>by simpa [sV] using hj))).mono ?_
 rintro e w6 ⟨rfl,hw6,hk6⟩
 have HW6:=Lib.hid hw6
 have HK6:=Lib.hid (HK5.out.trans (WrK.trans (HW5.out.keep HG.out) hk6))
 have h3:=kAz (HK6.out.2 _ _ HKX.out.1).1 0
 have h4:=kAz (HK6.out.2 _ _ HKX.out.2.1).1 5
 have h5:=kAz (HK6.out.2 _ _ HKX.out.2.2).1 0
 simp only [List.getElem?_toArray,List.getElem?_cons_zero,List.getElem?_cons_succ] at h3 h4 h5
 have cy0:=hw6.cell HCY.out.1
 have cy1:=hw6.cell HCY.out.2.1
 have cy2:=hw6.cell HCY.out.2.2.1
 have cy3:=hw6.cell HCY.out.2.2.2.1
 have cy4:=hw6.cell HCY.out.2.2.2.2.1
 have cy5:=hw6.cell HCY.out.2.2.2.2.2
 have q3:=fun u:Ext w6=>u.cell h3
 have q4:=fun u:Ext w6=>u.cell h4
 have q5:=fun u:Ext w6=>u.cell h5
 have ey0:=fun u:Ext w6=>u.cell cy0
 have ey1:=fun u:Ext w6=>u.cell cy1
 have ey2:=fun u:Ext w6=>u.cell cy2
 have ey3:=fun u:Ext w6=>u.cell cy3
 have ey4:=fun u:Ext w6=>u.cell cy4
 have ey5:=fun u:Ext w6=>u.cell cy5
 clear hw6 hk6 HG HB8 h3 h4 h5 p3 p4 pw cy0 cy1 cy2 cy3 cy4 cy5
 go_wp2_with fail
 refine kFk [] [] [0,1,2,3,4,5,6] [7] 7 (by kernel_rfl) (by kernel_rfl) (by kernel_rfl) ?_
 iterate 7 (refine kCq rfl rfl rfl rfl rfl ?_;intro K' hK';go_big_quiet_op;go_big_quiet_on)
 intro w11 hg
 have HG:=Lib.hid hg.up
 simp only [List.drop_succ_cons,List.drop_zero]
 clear hg
 go_wp2_with fail
 refine (HC.out _ (HW6.out.ext HG.out)).mono ?_
 rintro e w7 ⟨rfl,hw7,hk7⟩
 have HW7:=Lib.hid hw7
 have HK7:=Lib.hid (HK6.out.trans (WrK.trans (HW6.out.keep HG.out) hk7))
 clear hw7 hk7
 go_wp2_with fail
 exact bodyPost_end (v:=.tuple #[]) (by simp [results,Tryz.results106,go_sem]) rfl ⟨rfl,HW7.out,HK7.out⟩
def AtomP (w0:World) (P:Nat→Prop):Prop:=∀(op so n m:Int) (names:List (List UInt8)) (l:List Nd) (v:Value),okF (.mk op names so n m l)→op<11→NdV w0 P (.mk op names so n m l) v→∀u,Upto [] w0 u→Calls Tryz.prog 108 #[v] u (kXw u (txs (kIk op names n m)))
theorem ls_one {w:World} {P:Nat→Prop} {a:Option Addr} {x:Nd} {r:List Nd} (h:LsAt w P a (x::r)):∃(g o:Nat) (xo:Int) (xn1:Option Addr) (xn2 xn3:Nat) (xs xm xq:Int) (xl1:Option Addr) (xl2 xl3:Nat),a=some ⟨g,o,none⟩∧w.cell? ⟨g,o,none⟩=some (.int .i64 xo)∧w.cell? ⟨g,o+1,none⟩=some (.slice xn1 xn2 xn3)∧w.cell? ⟨g,o+2,none⟩=some (.int .i64 xs)∧w.cell? ⟨g,o+3,none⟩=some (.int .i64 xm)∧w.cell? ⟨g,o+4,none⟩=some (.int .i64 xq)∧w.cell? ⟨g,o+5,none⟩=some (.slice xl1 xl2 xl3)∧NdV w P x (.agg #[.int .i64 xo,.slice xn1 xn2 xn3,.int .i64 xs,.int .i64 xm,.int .i64 xq,.slice xl1 xl2 xl3]):=by
 obtain⟨g,o,xo,xn1,xn2,xn3,xs,xm,xq,xl1,xl2,xl3,e,c0,c1,c2,c3,c4,c5,hn⟩:=h 0 x rfl
 simp only [Nat.zero_mul,Nat.add_zero] at c0 c1 c2 c3 c4 c5
 exact⟨g,o,xo,xn1,xn2,xn3,xs,xm,xq,xl1,xl2,xl3,e,c0,c1,c2,c3,c4,c5,hn⟩
theorem nd_op {w:World} {P:Nat→Prop} {x:Nd} {xo:Int} {v1 v2 v3 v4 v5:Value} (h:NdV w P x (.agg #[.int .i64 xo,v1,v2,v3,v4,v5])):opF x=xo:=by
 cases x
 unfold NdV at h
 obtain⟨vn,vl,e,-⟩:=h
 simp only [Value.agg.injEq,Array.mk.injEq,List.cons.injEq,Value.int.injEq,true_and] at e
 exact e.1.symm
theorem ok_opF {x:Nd} (h:okF x):0≤opF x∧opF x≤17:=by
 cases x
 exact ok_op h
theorem node_atom (w0:World) (p:Nat) (op so nn mm:Int) (b1:Option Addr) (b2 b3:Nat) (d1:Option Addr) (d2 d3:Nat) (T:List (List UInt8)) (last:Bool) (w:World) (ts:List (List UInt8)) (hW:WrI w0 w p ts) (hPE:∀u,Upto [] w0 u→PEnv u) (h0:0≤op) (h1:op<11)
  (hat:∀u,Upto [] w0 u→Calls Tryz.prog 108 #[.agg #[.int .i64 op,.slice b1 b2 b3,.int .i64 so,.int .i64 nn,.int .i64 mm,.slice d1 d2 d3]] u (kXw u T)) (hlen:ts.length+T.length≤1000000000000):Calls Tryz.prog 71 #[.pointer (some ⟨p,0,none⟩),.agg #[.int .i64 op,.slice b1 b2 b3,.int .i64 so,.int .i64 nn,.int .i64 mm,.slice d1 d2 d3],.bool last] w fun e w'=>e=.returned (.tuple #[])∧WrI w0 w' p (ts++T)∧WrK w w' p:=by
 have u1:Upto [] w (w.alloc (.cells #[.pointer (some ⟨p,0,none⟩)] 99)):=(Upto.refl [] w).alloc _
 have u2:Upto [] (w.alloc (.cells #[.pointer (some ⟨p,0,none⟩)] 99)) ((w.alloc (.cells #[.pointer (some ⟨p,0,none⟩)] 99)).alloc (.cells #[.int .i64 op,.slice b1 b2 b3,.int .i64 so,.int .i64 nn,.int .i64 mm,.slice d1 d2 d3] 34)):=(Upto.refl [] _).alloc _
 have u3:Upto [] ((w.alloc (.cells #[.pointer (some ⟨p,0,none⟩)] 99)).alloc (.cells #[.int .i64 op,.slice b1 b2 b3,.int .i64 so,.int .i64 nn,.int .i64 mm,.slice d1 d2 d3] 34)) (((w.alloc (.cells #[.pointer (some ⟨p,0,none⟩)] 99)).alloc (.cells #[.int .i64 op,.slice b1 b2 b3,.int .i64 so,.int .i64 nn,.int .i64 mm,.slice d1 d2 d3] 34)).alloc (.cells #[.bool last] 4)):=(Upto.refl [] _).alloc _
 have hw1:=hW.ext u1
 have hw2:=hw1.ext u2
 have HW3:=Lib.hid (hw2.ext u3)
 have K3:=Lib.hid ((hw2.keep u3).2 _ _ ((hw1.keep u2).2 _ _ (hW.fresh #[.pointer (some ⟨p,0,none⟩)] 99)))
 have K4:=Lib.hid ((hw2.keep u3).2 _ _ (hw1.fresh #[.int .i64 op,.slice b1 b2 b3,.int .i64 so,.int .i64 nn,.int .i64 mm,.slice d1 d2 d3] 34))
 have K5:=Lib.hid (hw2.fresh #[.bool last] 4)
 have HK3:=Lib.hid (((hW.keep u1).trans (hw1.keep u2)).trans (hw2.keep u3))
 have z1:(w.alloc (.cells #[.pointer (some ⟨p,0,none⟩)] 99)).heap.size=w.heap.size+1:=by simp
 have z2:((w.alloc (.cells #[.pointer (some ⟨p,0,none⟩)] 99)).alloc (.cells #[.int .i64 op,.slice b1 b2 b3,.int .i64 so,.int .i64 nn,.int .i64 mm,.slice d1 d2 d3] 34)).heap.size=w.heap.size+1+1:=by simp
 rw [z1] at K4
 rw [z2] at K5
 clear u1 u2 u3 hw1 hw2 z1 z2
 have HAT:=Lib.hid hat
 have HPT:=Lib.hid (fun u yy (hu:WrI w0 u p ts) (hy:SlC u yy (T.map sV))=>kXq w0 u p ts T yy hu hy hlen)
 have HST:=Lib.hid (fun u (hu:Upto [] w0 u)=>by
  have h:=kTq op so nn mm b1 b2 b3 d1 d2 d3 u (hPE u hu) (by omega) (by omega)
  rwa [show strI op=6 by unfold strI;rw [if_neg (by omega),if_neg (by omega),if_neg (by omega),if_neg (by omega),if_neg (by omega)]] at h)
 clear hW hat hPE hlen h0 h1
 go_enter Tryz.func71,Tryz.ntmps71
 go_wp2_with fail
 refine (HST.out _ HW3.out.up).mono ?_
 rintro e w5 ⟨rfl,hu5⟩
 have HW5:=Lib.hid (HW3.out.ext hu5)
 have HX:=Lib.hid (HW3.out.keep hu5)
 have HK5:=Lib.hid (HK3.out.trans HX.out)
 have K35:=Lib.hid (HX.out.2 _ _ K3.out)
 have K45:=Lib.hid (HX.out.2 _ _ K4.out)
 have K55:=Lib.hid (HX.out.2 _ _ K5.out)
 clear hu5
 have h4:=K45.out.1
 have h3:=kAz K35.out.1 0
 simp only [List.getElem?_toArray,List.getElem?_cons_zero] at h3
 obtain⟨y0,y1,y2,y3,y4,y5⟩:=kAx h4
 have e3:=fun u:Ext w5=>u.cell h3
 have e0:=fun u:Ext w5=>u.cell y0
 have e1:=fun u:Ext w5=>u.cell y1
 have e2:=fun u:Ext w5=>u.cell y2
 have e4:=fun u:Ext w5=>u.cell y3
 have e5:=fun u:Ext w5=>u.cell y4
 have e6:=fun u:Ext w5=>u.cell y5
 go_wp2_with fail
 clear h3 h4 y0 y1 y2 y3 y4 y5
 refine kFk [2] [] [0,1,2] [3] 3 (by kernel_rfl) (by kernel_rfl) (by kernel_rfl) ?_
 iterate 2 (refine kCq rfl rfl rfl rfl rfl ?_;intro K' hK';go_big_quiet_op;go_big_quiet_on)
 refine seg_callO (Y:=Option Addr×Nat) (fun y=>.slice y.1 T.length y.2) (fun y u=>SlC u (.slice y.1 T.length y.2) (T.map sV)) (fun _=>[]) rfl rfl rfl rfl (fun _ _ _ h hu=>SlC.ext h hu) (fun _=>List.nodup_nil) (fun w=>by go_simp) (fun w' hu hd=>(HAT.out w' (HW5.out.up.trans_ext hu)).mono fun e w2 ⟨v,h1,h2,h3⟩=>by
   obtain⟨ya,yc,hy⟩:=h2.len
   rw [List.length_map] at hy
   subst hy
   exact⟨(ya,yc),h1,h3.1,h2,fun b hb=>by cases hb⟩) ?_
 rintro⟨ya,yc⟩
 simp only [Act.put,List.setIfInBounds_toArray,List.set_cons_zero,List.set_cons_succ]
 intro w9 hg
 have HG:=Lib.hid hg.up
 have HY:Hid (SlC w9 (.slice ya T.length yc) (T.map sV)):=Lib.hid hg.hold.1
 simp only [List.drop_succ_cons,List.drop_zero]
 clear hg
 go_wp2_with fail
 refine (HPT.out _ _ (HW5.out.ext HG.out) HY.out).mono ?_
 rintro e w6 ⟨rfl,hw6,hk6⟩
 have HW6:=Lib.hid hw6
 have HK6:=Lib.hid (HK5.out.trans (WrK.trans (HW5.out.keep HG.out) hk6))
 clear hw6 hk6
 go_wp2_with fail
 exact bodyPost_end (v:=.tuple #[]) (by simp [results,Tryz.results71,go_sem]) rfl ⟨rfl,HW6.out,HK6.out⟩
theorem patom_true (so nn mm:Int) (b1:Option Addr) (b2 b3:Nat) (d1:Option Addr) (d2 d3:Nat) (w:World):Calls Tryz.prog 108 #[.agg #[.int .i64 0,.slice b1 b2 b3,.int .i64 so,.int .i64 nn,.int .i64 mm,.slice d1 d2 d3]] w (kXw w [[116,114,117,101]]):=by
 have HU:=Lib.hid (Upto.refl [] w)
 go_enter Tryz.func108,Tryz.ntmps108
 go_wp2_with fail
 go_ret
 exact⟨_,rfl,kLq (kFz _ _ _) 1 [sV [116,114,117,101]] (fun j u hj=>by simpa [sV] using hj),(HU.out.alloc _).alloc _,_,_,rfl,Nat.le_refl _⟩
theorem patom_false (so nn mm:Int) (b1:Option Addr) (b2 b3:Nat) (d1:Option Addr) (d2 d3:Nat) (w:World):Calls Tryz.prog 108 #[.agg #[.int .i64 1,.slice b1 b2 b3,.int .i64 so,.int .i64 nn,.int .i64 mm,.slice d1 d2 d3]] w (kXw w [[102,97,108,115,101]]):=by
 have HU:=Lib.hid (Upto.refl [] w)
 go_enter Tryz.func108,Tryz.ntmps108
 go_wp2_with fail
 go_ret
 exact⟨_,rfl,kLq (kFz _ _ _) 1 [sV [102,97,108,115,101]] (fun j u hj=>by simpa [sV] using hj),(HU.out.alloc _).alloc _,_,_,rfl,Nat.le_refl _⟩
theorem patom_one (so nn mm:Int) (g o b2 b3:Nat) (d1:Option Addr) (d2 d3:Nat) (x:List UInt8) (w:World) (c1:w.cell? ⟨g,o,none⟩=some (.string ⟨x.toArray⟩)) (hb2:1≤b2):Calls Tryz.prog 108 #[.agg #[.int .i64 9,.slice (some ⟨g,o,none⟩) b2 b3,.int .i64 so,.int .i64 nn,.int .i64 mm,.slice d1 d2 d3]] w (kXw w [[111,110,101],x]):=by
 have hb2I:(0:Int)<b2:=by omega
 have hu1:Upto [] w (w.alloc (.cells #[.int .i64 9,.slice (some ⟨g,o,none⟩) b2 b3,.int .i64 so,.int .i64 nn,.int .i64 mm,.slice d1 d2 d3] 34)):=(Upto.refl [] w).alloc _
 have HU:=Lib.hid hu1
 replace c1:=kAw hu1 c1
 have hb:=kAq w (.cells #[.int .i64 9,.slice (some ⟨g,o,none⟩) b2 b3,.int .i64 so,.int .i64 nn,.int .i64 mm,.slice d1 d2 d3] 34)
 obtain⟨y0,y1,y2,y3,y4,y5⟩:=kAx hb
 clear hu1 hb y0 y1 y2 y3 y4 y5 hb2
 go_enter Tryz.func108,Tryz.ntmps108
 go_wp2_with fail
 go_ret
 exact⟨_,rfl,kLq (kFz _ _ _) 2 [sV [111,110,101],sV x] (fun j u hj=>by simpa [sV] using hj),HU.out.alloc _,_,_,rfl,Nat.le_refl _⟩
theorem patom_is (so mm:Int) (q:Nat) (hq:q<100) (g o b2 b3:Nat) (d1:Option Addr) (d2 d3:Nat) (x:List UInt8) (w:World) (c1:w.cell? ⟨g,o,none⟩=some (.string ⟨x.toArray⟩)) (hb2:1≤b2):Calls Tryz.prog 108 #[.agg #[.int .i64 7,.slice (some ⟨g,o,none⟩) b2 b3,.int .i64 so,.int .i64 (q:Int),.int .i64 mm,.slice d1 d2 d3]] w (kXw w [x,[105,115],digF 3 q]):=by
 have hb2I:(0:Int)<b2:=by omega
 have HD:=Lib.hid (fun u=>itoa_calls q hq u)
 have hu1:Upto [] w (w.alloc (.cells #[.int .i64 7,.slice (some ⟨g,o,none⟩) b2 b3,.int .i64 so,.int .i64 (q:Int),.int .i64 mm,.slice d1 d2 d3] 34)):=(Upto.refl [] w).alloc _
 have HU:=Lib.hid hu1
 replace c1:=kAw hu1 c1
 have hb:=kAq w (.cells #[.int .i64 7,.slice (some ⟨g,o,none⟩) b2 b3,.int .i64 so,.int .i64 (q:Int),.int .i64 mm,.slice d1 d2 d3] 34)
 obtain⟨y0,y1,y2,y3,y4,y5⟩:=kAx hb
 have e0:=fun u:Ext (w.alloc (.cells #[.int .i64 7,.slice (some ⟨g,o,none⟩) b2 b3,.int .i64 so,.int .i64 (q:Int),.int .i64 mm,.slice d1 d2 d3] 34))=>u.cell y0
 have e1:=fun u:Ext (w.alloc (.cells #[.int .i64 7,.slice (some ⟨g,o,none⟩) b2 b3,.int .i64 so,.int .i64 (q:Int),.int .i64 mm,.slice d1 d2 d3] 34))=>u.cell y1
 have e3:=fun u:Ext (w.alloc (.cells #[.int .i64 7,.slice (some ⟨g,o,none⟩) b2 b3,.int .i64 so,.int .i64 (q:Int),.int .i64 mm,.slice d1 d2 d3] 34))=>u.cell y3
 have e4:=fun u:Ext (w.alloc (.cells #[.int .i64 7,.slice (some ⟨g,o,none⟩) b2 b3,.int .i64 so,.int .i64 (q:Int),.int .i64 mm,.slice d1 d2 d3] 34))=>u.cell y4
 have ex:=fun u:Ext (w.alloc (.cells #[.int .i64 7,.slice (some ⟨g,o,none⟩) b2 b3,.int .i64 so,.int .i64 (q:Int),.int .i64 mm,.slice d1 d2 d3] 34))=>u.cell c1
 generalize digF 3 q=D at *
 clear hu1 hb hb2 hq
 go_enter Tryz.func108,Tryz.ntmps108
 go_wp2_with fail
 clear y0 y1 y2 y3 y4 y5 c1
 refine kFx [7,8] [] [0,1,2,3,4,5,6,7,8,9] (by kernel_rfl) (by kernel_rfl) ?_
 iterate 7 (refine kCq rfl rfl rfl rfl rfl ?_;intro K' hK';go_big_quiet_op;go_big_quiet_on)
 refine kMw rfl rfl rfl rfl (fun w=>by go_simp) (fun w' hu hd=>HD.out w') ?_
 simp only [Act.put,List.setIfInBounds_toArray,List.set_cons_zero,List.set_cons_succ]
 refine kYw (Y:=Nat) (fun b=>.slice (some ⟨b,0,none⟩) 3 3) (fun b u=>u.heap[b]?=some (.cells #[.string ⟨x.toArray⟩,.string ⟨#[105,115]⟩,.string ⟨D.toArray⟩] 9 (0,0))) (fun _=>[]) rfl rfl rfl rfl (fun _ _ _ h hu=>hu.at h (by simp)) (fun _=>List.nodup_nil) (fun w' post hu hd hp=>(congrArg (kNj Tryz.prog post) (show _=Result.ok (Next.value (.slice (some ⟨w'.heap.size,0,none⟩) 3 3)) (w'.alloc (.cells #[.string ⟨x.toArray⟩,.string ⟨#[105,115]⟩,.string ⟨D.toArray⟩] 9)) from by go_simp)).mpr (hp w'.heap.size _ ((Upto.refl [] w').alloc _) (kAq _ _) (fun b hb=>by cases hb))) ?_
 intro b8
 simp only [Act.put,List.setIfInBounds_toArray,List.set_cons_zero,List.set_cons_succ]
 (refine kCq rfl rfl rfl rfl rfl ?_;intro K' hK';go_big_quiet_op;go_big_quiet_on)
 intro w9 hg
 have HW9:=Lib.hid (HU.out.trans_ext hg.up)
 have HB8:Hid (w9.heap[b8]?=some (.cells #[.string ⟨x.toArray⟩,.string ⟨#[105,115]⟩,.string ⟨D.toArray⟩] 9 (0,0))):=Lib.hid hg.hold.1
 clear hg
 go_wp2_with fail
 go_ret
 exact⟨_,rfl,kLq HB8.out 3 [sV x,sV [105,115],sV D] (fun j u hj=>by simpa [sV] using hj),HW9.out,_,_,rfl,Nat.le_refl _⟩
theorem patom_size (so:Int) (q m:Nat) (hq:q<100) (hm:m<100) (g o b2 b3:Nat) (d1:Option Addr) (d2 d3:Nat) (x:List UInt8) (w:World) (c1:w.cell? ⟨g,o,none⟩=some (.string ⟨x.toArray⟩)) (hb2:1≤b2):Calls Tryz.prog 108 #[.agg #[.int .i64 8,.slice (some ⟨g,o,none⟩) b2 b3,.int .i64 so,.int .i64 (q:Int),.int .i64 (m:Int),.slice d1 d2 d3]] w (kXw w [[115,105,122,101],x,[109,111,100],digF 3 m,[105,115],digF 3 q]):=by
 have hb2I:(0:Int)<b2:=by omega
 have HD:=Lib.hid (fun u=>itoa_calls q hq u)
 have HE:=Lib.hid (fun u=>itoa_calls m hm u)
 have hu1:Upto [] w (w.alloc (.cells #[.int .i64 8,.slice (some ⟨g,o,none⟩) b2 b3,.int .i64 so,.int .i64 (q:Int),.int .i64 (m:Int),.slice d1 d2 d3] 34)):=(Upto.refl [] w).alloc _
 have HU:=Lib.hid hu1
 replace c1:=kAw hu1 c1
 have hb:=kAq w (.cells #[.int .i64 8,.slice (some ⟨g,o,none⟩) b2 b3,.int .i64 so,.int .i64 (q:Int),.int .i64 (m:Int),.slice d1 d2 d3] 34)
 obtain⟨y0,y1,y2,y3,y4,y5⟩:=kAx hb
 have e0:=fun u:Ext (w.alloc (.cells #[.int .i64 8,.slice (some ⟨g,o,none⟩) b2 b3,.int .i64 so,.int .i64 (q:Int),.int .i64 (m:Int),.slice d1 d2 d3] 34))=>u.cell y0
 have e1:=fun u:Ext (w.alloc (.cells #[.int .i64 8,.slice (some ⟨g,o,none⟩) b2 b3,.int .i64 so,.int .i64 (q:Int),.int .i64 (m:Int),.slice d1 d2 d3] 34))=>u.cell y1
 have e3:=fun u:Ext (w.alloc (.cells #[.int .i64 8,.slice (some ⟨g,o,none⟩) b2 b3,.int .i64 so,.int .i64 (q:Int),.int .i64 (m:Int),.slice d1 d2 d3] 34))=>u.cell y3
 have e4:=fun u:Ext (w.alloc (.cells #[.int .i64 8,.slice (some ⟨g,o,none⟩) b2 b3,.int .i64 so,.int .i64 (q:Int),.int .i64 (m:Int),.slice d1 d2 d3] 34))=>u.cell y4
 have ex:=fun u:Ext (w.alloc (.cells #[.int .i64 8,.slice (some ⟨g,o,none⟩) b2 b3,.int .i64 so,.int .i64 (q:Int),.int .i64 (m:Int),.slice d1 d2 d3] 34))=>u.cell c1
 generalize digF 3 q=D at *
 generalize digF 3 m=E at *
 clear hu1 hb hb2 hq hm
 go_enter Tryz.func108,Tryz.ntmps108
 go_wp2_with fail
 clear y0 y1 y2 y3 y4 y5 c1
 refine kFx [7,11,12] [] [0,1,2,3,4,5,6,7,8,9,10,11,12,13] (by kernel_rfl) (by kernel_rfl) ?_
 iterate 7 (refine kCq rfl rfl rfl rfl rfl ?_;intro K' hK';go_big_quiet_op;go_big_quiet_on)
 refine kMw rfl rfl rfl rfl (fun w=>by go_simp) (fun w' hu hd=>HE.out w') ?_
 simp only [Act.put,List.setIfInBounds_toArray,List.set_cons_zero,List.set_cons_succ]
 iterate 3 (refine kCq rfl rfl rfl rfl rfl ?_;intro K' hK';go_big_quiet_op;go_big_quiet_on)
 refine kMw rfl rfl rfl rfl (fun w=>by go_simp) (fun w' hu hd=>HD.out w') ?_
 simp only [Act.put,List.setIfInBounds_toArray,List.set_cons_zero,List.set_cons_succ]
 refine kYw (Y:=Nat) (fun b=>.slice (some ⟨b,0,none⟩) 6 6) (fun b u=>u.heap[b]?=some (.cells #[.string ⟨#[115,105,122,101]⟩,.string ⟨x.toArray⟩,.string ⟨#[109,111,100]⟩,.string ⟨E.toArray⟩,.string ⟨#[105,115]⟩,.string ⟨D.toArray⟩] 9 (0,0))) (fun _=>[]) rfl rfl rfl rfl (fun _ _ _ h hu=>hu.at h (by simp)) (fun _=>List.nodup_nil) (fun w' post hu hd hp=>(congrArg (kNj Tryz.prog post) (show _=Result.ok (Next.value (.slice (some ⟨w'.heap.size,0,none⟩) 6 6)) (w'.alloc (.cells #[.string ⟨#[115,105,122,101]⟩,.string ⟨x.toArray⟩,.string ⟨#[109,111,100]⟩,.string ⟨E.toArray⟩,.string ⟨#[105,115]⟩,.string ⟨D.toArray⟩] 9)) from by go_simp)).mpr (hp w'.heap.size _ ((Upto.refl [] w').alloc _) (kAq _ _) (fun b hb=>by cases hb))) ?_
 intro b8
 simp only [Act.put,List.setIfInBounds_toArray,List.set_cons_zero,List.set_cons_succ]
 (refine kCq rfl rfl rfl rfl rfl ?_;intro K' hK';go_big_quiet_op;go_big_quiet_on)
 intro w9 hg
 have HW9:=Lib.hid (HU.out.trans_ext hg.up)
 have HB8:Hid (w9.heap[b8]?=some (.cells #[.string ⟨#[115,105,122,101]⟩,.string ⟨x.toArray⟩,.string ⟨#[109,111,100]⟩,.string ⟨E.toArray⟩,.string ⟨#[105,115]⟩,.string ⟨D.toArray⟩] 9 (0,0))):=Lib.hid hg.hold.1
 clear hg
 go_wp2_with fail
 go_ret
 exact⟨_,rfl,kLq HB8.out 6 [sV [115,105,122,101],sV x,sV [109,111,100],sV E,sV [105,115],sV D] (fun j u hj=>by simpa [sV] using hj),HW9.out,_,_,rfl,Nat.le_refl _⟩
theorem rel_pword:∀k:_root_.Fin 5,pwordL[2+k.val]?=some (wordsF.getD (2+k.val) []):=by decide +kernel
theorem patom_two (so nn mm:Int) (k:Nat) (h2:2≤k) (h7:k<7) (g o b2 b3:Nat) (d1:Option Addr) (d2 d3:Nat) (x y:List UInt8) (w:World) (hp:PEnv w) (c1:w.cell? ⟨g,o,none⟩=some (.string ⟨x.toArray⟩)) (c2:w.cell? ⟨g,o+1,none⟩=some (.string ⟨y.toArray⟩)) (hb2:2≤b2):Calls Tryz.prog 108 #[.agg #[.int .i64 (k:Int),.slice (some ⟨g,o,none⟩) b2 b3,.int .i64 so,.int .i64 nn,.int .i64 mm,.slice d1 d2 d3]] w (kXw w [x,wordsF.getD k [],y]):=by
 have hb2I:(0:Int)<b2:=by omega
 have hb2J:(1:Int)<b2:=by omega
 obtain⟨W,hW⟩:∃W,W=wordsF.getD k []:=⟨_,rfl⟩
 have htt:pwordL[k]?=some W:=by
  have:=rel_pword ⟨k-2,by omega⟩
  simp only at this
  rw [show 2+(k-2)=k by omega] at this
  rw [this,hW]
 rw [←hW]
 clear hW
 have c0:=hp.word k W htt
 have hu1:Upto [] w (w.alloc (.cells #[.int .i64 (k:Int),.slice (some ⟨g,o,none⟩) b2 b3,.int .i64 so,.int .i64 nn,.int .i64 mm,.slice d1 d2 d3] 34)):=(Upto.refl [] w).alloc _
 have HU:=Lib.hid hu1
 replace c1:=kAw hu1 c1
 have hb:=kAq w (.cells #[.int .i64 (k:Int),.slice (some ⟨g,o,none⟩) b2 b3,.int .i64 so,.int .i64 nn,.int .i64 mm,.slice d1 d2 d3] 34)
 obtain⟨y0,y1,y2,y3,y4,y5⟩:=kAx hb
 have e0:=fun u:Ext (w.alloc (.cells #[.int .i64 (k:Int),.slice (some ⟨g,o,none⟩) b2 b3,.int .i64 so,.int .i64 nn,.int .i64 mm,.slice d1 d2 d3] 34))=>u.cell y0
 have e1:=fun u:Ext (w.alloc (.cells #[.int .i64 (k:Int),.slice (some ⟨g,o,none⟩) b2 b3,.int .i64 so,.int .i64 nn,.int .i64 mm,.slice d1 d2 d3] 34))=>u.cell y1
 have e3:=fun u:Ext (w.alloc (.cells #[.int .i64 (k:Int),.slice (some ⟨g,o,none⟩) b2 b3,.int .i64 so,.int .i64 nn,.int .i64 mm,.slice d1 d2 d3] 34))=>u.cell y3
 have e4:=fun u:Ext (w.alloc (.cells #[.int .i64 (k:Int),.slice (some ⟨g,o,none⟩) b2 b3,.int .i64 so,.int .i64 nn,.int .i64 mm,.slice d1 d2 d3] 34))=>u.cell y4
 have ex:=fun u:Ext (w.alloc (.cells #[.int .i64 (k:Int),.slice (some ⟨g,o,none⟩) b2 b3,.int .i64 so,.int .i64 nn,.int .i64 mm,.slice d1 d2 d3] 34))=>u.cell c1
 replace c0:=kAw hu1 c0
 replace c2:=kAw hu1 c2
 have ew:=fun u:Ext (w.alloc (.cells #[.int .i64 (k:Int),.slice (some ⟨g,o,none⟩) b2 b3,.int .i64 so,.int .i64 nn,.int .i64 mm,.slice d1 d2 d3] 34))=>u.cell c0
 have ez:=fun u:Ext (w.alloc (.cells #[.int .i64 (k:Int),.slice (some ⟨g,o,none⟩) b2 b3,.int .i64 so,.int .i64 nn,.int .i64 mm,.slice d1 d2 d3] 34))=>u.cell c2
 have hk0:(0:Int)≤k:=by omega
 have hk1:(k:Int)<18:=by omega
 have k0:((k:Int)==0)=false:=by rw [beq_eq_false_iff_ne];omega
 have k1:((k:Int)==1)=false:=by rw [beq_eq_false_iff_ne];omega
 have k7:((k:Int)==7)=false:=by rw [beq_eq_false_iff_ne];omega
 have k8:((k:Int)==8)=false:=by rw [beq_eq_false_iff_ne];omega
 have k9:((k:Int)==9)=false:=by rw [beq_eq_false_iff_ne];omega
 have k10:((k:Int)==10)=false:=by rw [beq_eq_false_iff_ne];omega
 clear hu1 hb hb2 htt hp h2 h7
 go_enter Tryz.func108,Tryz.ntmps108
 go_wp2_with fail
 clear y0 y1 y2 y3 y4 y5 c1 c2 c0 k0 k1 k7 k8 k9 k10
 refine kFx [12] [] [0,1,2,3,4,5,6,7,8,9,10,11,12,13] (by kernel_rfl) (by kernel_rfl) ?_
 iterate 12 (refine kCq rfl rfl rfl rfl rfl ?_;intro K' hK';go_big_quiet_op;go_big_quiet_on)
 refine kYw (Y:=Nat) (fun b=>.slice (some ⟨b,0,none⟩) 3 3) (fun b u=>u.heap[b]?=some (.cells #[.string ⟨x.toArray⟩,.string ⟨W.toArray⟩,.string ⟨y.toArray⟩] 9 (0,0))) (fun _=>[]) rfl rfl rfl rfl (fun _ _ _ h hu=>hu.at h (by simp)) (fun _=>List.nodup_nil) (fun w' post hu hd hp=>(congrArg (kNj Tryz.prog post) (show _=Result.ok (Next.value (.slice (some ⟨w'.heap.size,0,none⟩) 3 3)) (w'.alloc (.cells #[.string ⟨x.toArray⟩,.string ⟨W.toArray⟩,.string ⟨y.toArray⟩] 9)) from by go_simp)).mpr (hp w'.heap.size _ ((Upto.refl [] w').alloc _) (kAq _ _) (fun b hb=>by cases hb))) ?_
 intro b8
 simp only [Act.put,List.setIfInBounds_toArray,List.set_cons_zero,List.set_cons_succ]
 (refine kCq rfl rfl rfl rfl rfl ?_;intro K' hK';go_big_quiet_op;go_big_quiet_on)
 intro w9 hg
 have HW9:=Lib.hid (HU.out.trans_ext hg.up)
 have HB8:Hid (w9.heap[b8]?=some (.cells #[.string ⟨x.toArray⟩,.string ⟨W.toArray⟩,.string ⟨y.toArray⟩] 9 (0,0))):=Lib.hid hg.hold.1
 clear hg
 go_wp2_with fail
 go_ret
 exact⟨_,rfl,kLq HB8.out 3 [sV x,sV W,sV y] (fun j u hj=>by simpa [sV] using hj),HW9.out,_,_,rfl,Nat.le_refl _⟩
theorem row_two {w:World} {g:Nat} {x y:Value} {e:TypeId} (h:w.heap[g]?=some (.cells #[x,y] e (0,0))):w.ownsRow 0 e 1 (.slice (some ⟨g,0,none⟩) 2 2) 2 [x,y] :=
 ⟨rfl,Or.inr ⟨g,2,#[x,y],rfl,Nat.zero_le _,h,Nat.le_refl _,by unfold maxLen;omega,rfl,rfl⟩⟩
theorem JnI.slc {w wr:World} {ls:List (List UInt8)} {l:Value} (h:JnI w ls l wr):SlC wr l (ls.map sV):=by
 have h1:=h.row
 have h2:ls.length=(ls.map sb).length:=by simp
 rw [h2] at h1
 exact (SlP.of_row (P:=fun _=>True) h1 (fun _ _=>trivial)).slc
theorem JnI.cap {w wr:World} {ls:List (List UInt8)} {l:Value} (h:JnI w ls l wr):CapOk l ls.length:=by
 rcases h.row.2 with⟨h1,h2⟩ | ⟨g,cap,cur,he,-,-,hc,-⟩
 ·exact⟨none,0,by rw [h1,h2],by omega⟩
 ·exact⟨_,cap,he,hc⟩
def caT (f:List UInt8) (ys:List (List UInt8)):List (List UInt8):=f::[40]::txs (argT ys)
theorem caT_len (f:List UInt8) (ys:List (List UInt8)):(caT f ys).length≤2+2*ys.length:=by
 have:=argT_len ys
 simp only [caT,List.length_cons,txs_len]
 omega
theorem patom_call (so nn mm:Int) (g o c m:Nat) (d1:Option Addr) (d2 d3:Nat) (f:List UInt8) (ys:List (List UInt8)) (hm:ys.length=m+1) (hm2:m≤1000) (w:World) (hx:∀j x,(f::ys)[j]?=some x→w.cell? ⟨g,o+j,none⟩=some (.string ⟨x.toArray⟩)):Calls Tryz.prog 108 #[.agg #[.int .i64 10,.slice (some ⟨g,o,none⟩) (m+2) (c+2),.int .i64 so,.int .i64 nn,.int .i64 mm,.slice d1 d2 d3]] w (kXw w (caT f ys++[[41]])):=by
 have c1:=hx 0 f rfl
 rw [Nat.add_zero] at c1
 have hu1:Upto [] w (w.alloc (.cells #[.int .i64 10,.slice (some ⟨g,o,none⟩) (m+2) (c+2),.int .i64 so,.int .i64 nn,.int .i64 mm,.slice d1 d2 d3] 34)):=(Upto.refl [] w).alloc _
 replace c1:=kAw hu1 c1
 have HX:Hid (∀(k:Nat) x,ys[k]?=some x→w.cell? ⟨g,o+1+k,none⟩=some (.string ⟨x.toArray⟩)):=Lib.hid (fun k x hk=>by
  have:=hx (k+1) x (by simpa using hk)
  rwa [show o+(k+1)=o+1+k by omega] at this)
 have hb:=kAq w (.cells #[.int .i64 10,.slice (some ⟨g,o,none⟩) (m+2) (c+2),.int .i64 so,.int .i64 nn,.int .i64 mm,.slice d1 d2 d3] 34)
 obtain⟨y0,y1⟩:=kKx hb
 have hb2:=kFz w (.cells #[.int .i64 10,.slice (some ⟨g,o,none⟩) (m+2) (c+2),.int .i64 so,.int .i64 nn,.int .i64 mm,.slice d1 d2 d3] 34) (.cells #[.string ⟨f.toArray⟩,.string ⟨#[40]⟩] 9)
 have hu2:Upto [] w ((w.alloc (.cells #[.int .i64 10,.slice (some ⟨g,o,none⟩) (m+2) (c+2),.int .i64 so,.int .i64 nn,.int .i64 mm,.slice d1 d2 d3] 34)).alloc (.cells #[.string ⟨f.toArray⟩,.string ⟨#[40]⟩] 9)):=hu1.alloc _
 have HJ:Hid (JnI w (caT f (ys.take 0)) (.slice (some ⟨w.heap.size+1,0,none⟩) 2 2) ((w.alloc (.cells #[.int .i64 10,.slice (some ⟨g,o,none⟩) (m+2) (c+2),.int .i64 so,.int .i64 nn,.int .i64 mm,.slice d1 d2 d3] 34)).alloc (.cells #[.string ⟨f.toArray⟩,.string ⟨#[40]⟩] 9))):=Lib.hid ⟨row_two hb2,fun g' hg'=>by
  simp only [Value.ownBlock,Option.some.injEq] at hg'
  omega,hu2⟩
 obtain⟨i0,hi0,hz0,hz1,hz2⟩:=infoS
 have HI:=Lib.hid hi0
 have HZ0:=Lib.hid hz0
 have HZ1:=Lib.hid hz1
 have HZ2:=Lib.hid hz2
 have HM:=Lib.hid hm
 have hmI:(m:Int)≤1000:=by omega
 have hm0:(0:Int)≤m:=by omega
 clear hi0 hz0 hz1 hz2 hb hb2 hu1 hu2 hx hm
 go_enter Tryz.func108,Tryz.ntmps108
 go_wp2_with fail
 clear y0 y1 c1
 go_loopw [4,59] (fun l i wr=>∃k:Nat,k≤m+1∧i=.int .i64 k∧Hid (JnI w (caT f (ys.take k)) l wr)) (fun _ i _=>m+1-(intOf i).toNat)
 case atStart=>exact⟨0,by omega,rfl,HJ⟩
 case round =>
  obtain⟨k,hk,rfl,HJk⟩:=hrel
  clear HJ
  obtain⟨N,hN⟩:∃N,(caT f (ys.take k)).length=N:=⟨_,rfl⟩
  have hN2:N≤5000:=by
   have h1:=caT_len f (ys.take k)
   rw [List.length_take] at h1
   omega
  obtain⟨va,vc,hve,-⟩:=kJj HJk.out.row
  rw [hN] at hve
  subst hve
  have HN:=Lib.hid hN
  have hk0:(0:Int)≤k:=by omega
  rcases Nat.lt_or_ge k (m+1) with hlt | hge
  ·have hltI:(k:Int)<(m:Int)+1:=by omega
   obtain⟨y,hy⟩:∃y,ys[k]?=some y:=⟨_,List.getElem?_eq_getElem (by rw [HM.out];exact hlt)⟩
   have c2:=HX.out k y hy
   replace c2:=kAw HJk.out.up c2
   have HT:Hid (ys.take (k+1)=ys.take k++[y]):=Lib.hid (by
    obtain⟨hi,h2⟩:=List.getElem?_eq_some_iff.1 hy
    rw [List.take_succ_eq_append_getElem hi,h2])
   have HY:=Lib.hid hy
   clear hy
   by_cases hz:k=0
   ·subst hz
    have HE:Hid (caT f (ys.take (0+1))=caT f (ys.take 0)++[y]):=Lib.hid (by
     rw [HT.out]
     simp only [caT,argT_snoc]
     simp [argT,txs])
    have hrow:=(HJk.out.ext ((Upto.refl [] _).alloc (.cells #[.string ⟨y.toArray⟩] 9))).row
    have hsrc:=kQk (l:=[sb y]) (kAq wr (.cells #[.string ⟨y.toArray⟩] 9))
    rw [HN.out] at hrow
    go_wp2_with (at_builtin;refine kHk _ rfl (.tmp 69) (.tmp 71) 22 rfl 9 i0 (.string ⟨#[]⟩) 1 16 Tryz.underlying22 HI.out HZ0.out HZ1.out HZ2.out rfl (by decide) (.slice va N vc) N _ rfl hrow ⟨wr.heap.size,0,none⟩ 1 1 [sb y] rfl rfl hsrc (by simp [Value.oneCell',sb]) (by unfold maxLen;omega) (by omega) ?_;intro vb vd w4 ho4 hu4 hw4;have HM5:=Lib.hid (HJk.out.app' HN.out ho4 hu4 hw4);clear hrow hsrc ho4 hu4 hw4)
    go_roundw
    case rel=>exact⟨1,by omega,by go_num,Lib.hid (by have:=HM5.out;rwa [←HE.out] at this)⟩
    case measure=>first | (simp [intOf];done) | (simp [intOf];omega)
   ·have hzI:(0:Int)<k:=by omega
    have HE:Hid (caT f (ys.take (k+1))=caT f (ys.take k)++[[44]]++[y]):=Lib.hid (by
     rw [HT.out]
     have hne:ys.take k≠[]:=fun h=>by
      have:=congrArg List.length h
      rw [List.length_take,HM.out,List.length_nil] at this
      omega
     simp only [caT,argT_snoc,if_neg hne]
     simp)
    have hrow:=(HJk.out.ext ((Upto.refl [] _).alloc (.cells #[.string ⟨#[44]⟩] 9))).row
    have hsrc:=kQk (l:=[sb [44]]) (kAq wr (.cells #[.string ⟨#[44]⟩] 9))
    rw [HN.out] at hrow
    clear hz
    go_wp2_with (at_builtin;first
     | (refine kHk _ rfl (.tmp 66) (.tmp 67) 22 rfl 9 i0 (.string ⟨#[]⟩) 1 16 Tryz.underlying22 HI.out HZ0.out HZ1.out HZ2.out rfl (by decide) (.slice va N vc) N _ rfl hrow ⟨wr.heap.size,0,none⟩ 1 1 [sb [44]] rfl rfl hsrc (by simp [Value.oneCell',sb]) (by unfold maxLen;omega) (by omega) ?_;intro vb vd w4 ho4 hu4 hw4;have HM4:=Lib.hid (HJk.out.app' HN.out ho4 hu4 hw4);have c4:=(HM4.out.up.cell (World.block_lt_of_cell? w _ (HX.out k y HY.out)) (by simp)).trans (HX.out k y HY.out);clear hrow hsrc ho4 hu4 hw4;have hrow2:=(HM4.out.ext ((Upto.refl [] _).alloc (.cells #[.string ⟨y.toArray⟩] 9))).row;have hsrc2:=kQk (l:=[sb y]) (kAq w4 (.cells #[.string ⟨y.toArray⟩] 9));rw [List.length_append,HN.out,List.length_singleton] at hrow2)
     | (refine kHk _ rfl (.tmp 69) (.tmp 71) 22 rfl 9 i0 (.string ⟨#[]⟩) 1 16 Tryz.underlying22 HI.out HZ0.out HZ1.out HZ2.out rfl (by decide) (.slice vb (N+1) vd) (N+1) _ rfl hrow2 ⟨w4.heap.size,0,none⟩ 1 1 [sb y] rfl rfl hsrc2 (by simp [Value.oneCell',sb]) (by unfold maxLen;omega) (by omega) ?_;intro vb vd w5 ho5 hu5 hw5;have HM5:=Lib.hid (HM4.out.app' (by rw [List.length_append,HN.out,List.length_singleton]) ho5 hu5 hw5);clear hrow2 hsrc2 ho5 hu5 hw5))
    go_roundw
    case rel=>exact⟨k+1,by omega,by go_num,Lib.hid (by have:=HM5.out;rwa [←HE.out] at this)⟩
    case measure=>simp [intOf];omega
  ·have hgeI:¬(k:Int)<(m:Int)+1:=by omega
   have HTA:Hid (ys.take k=ys):=Lib.hid (List.take_of_length_le (by rw [HM.out];exact hge))
   have hrow:=(HJk.out.ext ((Upto.refl [] _).alloc (.cells #[.string ⟨#[41]⟩] 9))).row
   have hsrc:=kQk (l:=[sb [41]]) (kAq wr (.cells #[.string ⟨#[41]⟩] 9))
   rw [HN.out] at hrow
   go_wp2_with (at_builtin;refine kHk _ rfl (.tmp 74) (.tmp 75) 22 rfl 9 i0 (.string ⟨#[]⟩) 1 16 Tryz.underlying22 HI.out HZ0.out HZ1.out HZ2.out rfl (by decide) (.slice va N vc) N _ rfl hrow ⟨wr.heap.size,0,none⟩ 1 1 [sb [41]] rfl rfl hsrc (by simp [Value.oneCell',sb]) (by unfold maxLen;omega) (by omega) ?_;intro vb vd w4 ho4 hu4 hw4;have HM5:=Lib.hid (HJk.out.app' HN.out ho4 hu4 hw4);clear hrow hsrc ho4 hu4 hw4)
   go_ret
   have h9:=HM5.out
   rw [HTA.out] at h9
   exact⟨_,rfl,h9.slc,h9.up,h9.cap⟩
theorem patom_call0a (so nn mm:Int) (g o:Nat) (d1:Option Addr) (d2 d3:Nat) (f:List UInt8) (w:World) (c1:w.cell? ⟨g,o,none⟩=some (.string ⟨f.toArray⟩)):Calls Tryz.prog 108 #[.agg #[.int .i64 10,.slice (some ⟨g,o,none⟩) 1 1,.int .i64 so,.int .i64 nn,.int .i64 mm,.slice d1 d2 d3]] w (kXw w (caT f []++[[41]])):=by
 have hu1:Upto [] w (w.alloc (.cells #[.int .i64 10,.slice (some ⟨g,o,none⟩) 1 1,.int .i64 so,.int .i64 nn,.int .i64 mm,.slice d1 d2 d3] 34)):=(Upto.refl [] w).alloc _
 replace c1:=kAw hu1 c1
 have hb:=kAq w (.cells #[.int .i64 10,.slice (some ⟨g,o,none⟩) 1 1,.int .i64 so,.int .i64 nn,.int .i64 mm,.slice d1 d2 d3] 34)
 obtain⟨y0,y1⟩:=kKx hb
 have hb2:=kFz w (.cells #[.int .i64 10,.slice (some ⟨g,o,none⟩) 1 1,.int .i64 so,.int .i64 nn,.int .i64 mm,.slice d1 d2 d3] 34) (.cells #[.string ⟨f.toArray⟩,.string ⟨#[40]⟩] 9)
 have hu2:Upto [] w ((w.alloc (.cells #[.int .i64 10,.slice (some ⟨g,o,none⟩) 1 1,.int .i64 so,.int .i64 nn,.int .i64 mm,.slice d1 d2 d3] 34)).alloc (.cells #[.string ⟨f.toArray⟩,.string ⟨#[40]⟩] 9)):=hu1.alloc _
 have HJ:Hid (JnI w (caT f []) (.slice (some ⟨w.heap.size+1,0,none⟩) 2 2) ((w.alloc (.cells #[.int .i64 10,.slice (some ⟨g,o,none⟩) 1 1,.int .i64 so,.int .i64 nn,.int .i64 mm,.slice d1 d2 d3] 34)).alloc (.cells #[.string ⟨f.toArray⟩,.string ⟨#[40]⟩] 9))):=Lib.hid ⟨row_two hb2,fun g' hg'=>by
  simp only [Value.ownBlock,Option.some.injEq] at hg'
  omega,hu2⟩
 obtain⟨i0,hi0,hz0,hz1,hz2⟩:=infoS
 have HI:=Lib.hid hi0
 have HZ0:=Lib.hid hz0
 have HZ1:=Lib.hid hz1
 have HZ2:=Lib.hid hz2
 clear hi0 hz0 hz1 hz2 hb hb2 hu1 hu2
 go_enter Tryz.func108,Tryz.ntmps108
 go_wp2_with fail
 clear y0 y1 c1
 generalize ((w.alloc (.cells #[.int .i64 10,.slice (some ⟨g,o,none⟩) 1 1,.int .i64 so,.int .i64 nn,.int .i64 mm,.slice d1 d2 d3] 34)).alloc (.cells #[.string ⟨f.toArray⟩,.string ⟨#[40]⟩] 9))=W at *
 generalize w.heap.size+1=B at *
 go_loopw [4,59] (fun l i wr=>l=.slice (some ⟨B,0,none⟩) 2 2∧i=.int .i64 0∧Hid (JnI w (caT f []) (.slice (some ⟨B,0,none⟩) 2 2) wr)) (fun _ _ _=>0)
 case atStart=>exact⟨rfl,rfl,HJ⟩
 case round =>
  obtain⟨rfl,rfl,HJk⟩:=hrel
  clear HJ
  have hrow:=(HJk.out.ext ((Upto.refl [] _).alloc (.cells #[.string ⟨#[41]⟩] 9))).row
  have hsrc:=kQk (l:=[sb [41]]) (kAq wr (.cells #[.string ⟨#[41]⟩] 9))
  go_wp2_with (at_builtin;refine kHk _ rfl (.tmp 74) (.tmp 75) 22 rfl 9 i0 (.string ⟨#[]⟩) 1 16 Tryz.underlying22 HI.out HZ0.out HZ1.out HZ2.out rfl (by decide) (.slice (some ⟨B,0,none⟩) 2 2) 2 _ rfl hrow ⟨wr.heap.size,0,none⟩ 1 1 [sb [41]] rfl rfl hsrc (by simp [Value.oneCell',sb]) (by unfold maxLen;omega) (by omega) ?_;intro vb vd w4 ho4 hu4 hw4;have HM5:=Lib.hid (HJk.out.app' rfl ho4 hu4 hw4);clear hrow hsrc ho4 hu4 hw4)
  go_ret
  exact⟨_,rfl,HM5.out.slc,HM5.out.up,HM5.out.cap⟩
theorem patom_call0b (so nn mm:Int) (g o c:Nat) (d1:Option Addr) (d2 d3:Nat) (f:List UInt8) (w:World) (c1:w.cell? ⟨g,o,none⟩=some (.string ⟨f.toArray⟩)):Calls Tryz.prog 108 #[.agg #[.int .i64 10,.slice (some ⟨g,o,none⟩) 1 (c+2),.int .i64 so,.int .i64 nn,.int .i64 mm,.slice d1 d2 d3]] w (kXw w (caT f []++[[41]])):=by
 have hu1:Upto [] w (w.alloc (.cells #[.int .i64 10,.slice (some ⟨g,o,none⟩) 1 (c+2),.int .i64 so,.int .i64 nn,.int .i64 mm,.slice d1 d2 d3] 34)):=(Upto.refl [] w).alloc _
 replace c1:=kAw hu1 c1
 have hb:=kAq w (.cells #[.int .i64 10,.slice (some ⟨g,o,none⟩) 1 (c+2),.int .i64 so,.int .i64 nn,.int .i64 mm,.slice d1 d2 d3] 34)
 obtain⟨y0,y1⟩:=kKx hb
 have hb2:=kFz w (.cells #[.int .i64 10,.slice (some ⟨g,o,none⟩) 1 (c+2),.int .i64 so,.int .i64 nn,.int .i64 mm,.slice d1 d2 d3] 34) (.cells #[.string ⟨f.toArray⟩,.string ⟨#[40]⟩] 9)
 have hu2:Upto [] w ((w.alloc (.cells #[.int .i64 10,.slice (some ⟨g,o,none⟩) 1 (c+2),.int .i64 so,.int .i64 nn,.int .i64 mm,.slice d1 d2 d3] 34)).alloc (.cells #[.string ⟨f.toArray⟩,.string ⟨#[40]⟩] 9)):=hu1.alloc _
 have HJ:Hid (JnI w (caT f []) (.slice (some ⟨w.heap.size+1,0,none⟩) 2 2) ((w.alloc (.cells #[.int .i64 10,.slice (some ⟨g,o,none⟩) 1 (c+2),.int .i64 so,.int .i64 nn,.int .i64 mm,.slice d1 d2 d3] 34)).alloc (.cells #[.string ⟨f.toArray⟩,.string ⟨#[40]⟩] 9))):=Lib.hid ⟨row_two hb2,fun g' hg'=>by
  simp only [Value.ownBlock,Option.some.injEq] at hg'
  omega,hu2⟩
 obtain⟨i0,hi0,hz0,hz1,hz2⟩:=infoS
 have HI:=Lib.hid hi0
 have HZ0:=Lib.hid hz0
 have HZ1:=Lib.hid hz1
 have HZ2:=Lib.hid hz2
 clear hi0 hz0 hz1 hz2 hb hb2 hu1 hu2
 go_enter Tryz.func108,Tryz.ntmps108
 go_wp2_with fail
 clear y0 y1 c1
 generalize ((w.alloc (.cells #[.int .i64 10,.slice (some ⟨g,o,none⟩) 1 (c+2),.int .i64 so,.int .i64 nn,.int .i64 mm,.slice d1 d2 d3] 34)).alloc (.cells #[.string ⟨f.toArray⟩,.string ⟨#[40]⟩] 9))=W at *
 generalize w.heap.size+1=B at *
 go_loopw [4,59] (fun l i wr=>l=.slice (some ⟨B,0,none⟩) 2 2∧i=.int .i64 0∧Hid (JnI w (caT f []) (.slice (some ⟨B,0,none⟩) 2 2) wr)) (fun _ _ _=>0)
 case atStart=>exact⟨rfl,rfl,HJ⟩
 case round =>
  obtain⟨rfl,rfl,HJk⟩:=hrel
  clear HJ
  have hrow:=(HJk.out.ext ((Upto.refl [] _).alloc (.cells #[.string ⟨#[41]⟩] 9))).row
  have hsrc:=kQk (l:=[sb [41]]) (kAq wr (.cells #[.string ⟨#[41]⟩] 9))
  go_wp2_with (at_builtin;refine kHk _ rfl (.tmp 74) (.tmp 75) 22 rfl 9 i0 (.string ⟨#[]⟩) 1 16 Tryz.underlying22 HI.out HZ0.out HZ1.out HZ2.out rfl (by decide) (.slice (some ⟨B,0,none⟩) 2 2) 2 _ rfl hrow ⟨wr.heap.size,0,none⟩ 1 1 [sb [41]] rfl rfl hsrc (by simp [Value.oneCell',sb]) (by unfold maxLen;omega) (by omega) ?_;intro vb vd w4 ho4 hu4 hw4;have HM5:=Lib.hid (HJk.out.app' rfl ho4 hu4 hw4);clear hrow hsrc ho4 hu4 hw4)
  go_ret
  exact⟨_,rfl,HM5.out.slc,HM5.out.up,HM5.out.cap⟩
theorem txs_atom_call {f:List UInt8} {ys:List (List UInt8)} {n m:Int}:txs (kIk 10 (f::ys) n m)=caT f ys++[[41]]:=by
 unfold kIk
 rw [if_neg (by omega),if_neg (by omega),if_neg (by omega),if_neg (by omega),if_neg (by omega),if_neg (by omega)]
 simp [txs,caT,idT,puT]
theorem patom_calls {w0:World} {P:Nat→Prop} (hPE:∀u,Upto [] w0 u→PEnv u):AtomP w0 P:=by
 intro op so n m names l v hok hop h u hu
 obtain⟨a1,c1,a2,c2,rfl,hs,-⟩:=(h.ext hu).open
 unfold okF at hok
 obtain⟨hnm,hc,-⟩:=hok
 have cell:∀j x,names[j]?=some x→∃g o,a1=some ⟨g,o,none⟩∧u.cell? ⟨g,o+j,none⟩=some (.string ⟨x.toArray⟩):=fun j x hj=>by
  obtain⟨a,c,he,hg⟩:=hs.get
  simp only [Value.slice.injEq] at he
  obtain⟨rfl,-,rfl⟩:=he
  exact hg j _ (by rw [List.getElem?_map,hj];rfl)
 rcases hc with⟨h1,h2,h3,rfl,rfl,rfl⟩ | ⟨h1,h1',h2,h3,rfl,rfl,rfl⟩ | ⟨rfl,h2,h3,rfl,h4,h5,rfl⟩ | ⟨rfl,h2,h3,rfl,h4,h5,h6⟩ | ⟨rfl,h2,h3,rfl,rfl,rfl⟩ | ⟨rfl,h2,h2',h3,rfl,rfl,rfl⟩ | ⟨rfl,-⟩ | ⟨h1,h2,-⟩ | ⟨h1,h2,-⟩
 ·subst h2
  rcases h1 with rfl | rfl
  ·rw [show ∀n m,txs (kIk 0 [] n m)=[[116,114,117,101]] from fun _ _=>rfl]
   exact patom_true _ _ _ _ _ _ _ _ _ u
  ·rw [show ∀n m,txs (kIk 1 [] n m)=[[102,97,108,115,101]] from fun _ _=>rfl]
   exact patom_false _ _ _ _ _ _ _ _ _ u
 ·obtain⟨k,rfl⟩:=kUj (show 0≤op by omega)
  obtain⟨x,y,rfl⟩:=two_of h2
  obtain⟨g,o,rfl,d0⟩:=cell 0 x rfl
  obtain⟨g',o',he,d1⟩:=cell 1 y rfl
  simp only [Option.some.injEq,Addr.mk.injEq,and_true] at he
  obtain⟨rfl,rfl⟩:=he
  have e:txs (kIk (k:Int) [x,y] 0 0)=[x,wordsF.getD k [],y]:=by
   unfold kIk
   rw [if_neg (by omega),if_neg (by omega),if_pos (by omega),←rel_word ⟨by omega,by omega⟩]
   simp [txs,idT]
  rw [e]
  exact patom_two _ _ _ k (by omega) (by omega) g o _ _ _ _ _ x y u (hPE u hu) d0 d1 (by simp)
 ·obtain⟨q,rfl⟩:=kUj h4
  obtain⟨x,rfl⟩:=one_of h2
  obtain⟨g,o,rfl,d0⟩:=cell 0 x rfl
  exact patom_is _ _ q (by omega) g o _ _ _ _ _ x u d0 (by simp)
 ·obtain⟨q,rfl⟩:=kUj h4
  obtain⟨p,rfl⟩:=kUj (show 0≤m by omega)
  obtain⟨x,rfl⟩:=one_of h2
  obtain⟨g,o,rfl,d0⟩:=cell 0 x rfl
  exact patom_size _ q p (by omega) (by omega) g o _ _ _ _ _ x u d0 (by simp)
 ·obtain⟨x,rfl⟩:=one_of h2
  obtain⟨g,o,rfl,d0⟩:=cell 0 x rfl
  exact patom_one _ _ _ g o _ _ _ _ _ x u d0 (by simp)
 ·obtain⟨f,ys,rfl⟩:=cons_of h2
  rw [txs_atom_call]
  rcases hs with⟨h0,-⟩ | ⟨g,o,c,he,⟨-,-,hnc⟩,hcl⟩
  ·simp at h0
  simp only [Value.slice.injEq] at he
  obtain⟨rfl,-,rfl⟩:=he
  have hcl2:∀j x,(f::ys)[j]?=some x→u.cell? ⟨g,o+j,none⟩=some (.string ⟨x.toArray⟩):=fun j x hj=>hcl j (sV x) (by rw [List.getElem?_map,hj];rfl)
  cases ys with
  | nil =>
   have d0:=hcl2 0 f rfl
   simp only [List.length_cons,List.length_nil] at hnc ⊢
   by_cases h1:c1=1
   ·subst h1
    exact patom_call0a _ _ _ g o _ _ _ f u d0
   ·obtain⟨cc,rfl⟩:∃cc,c1=cc+2:=⟨c1-2,by omega⟩
    exact patom_call0b _ _ _ g o cc _ _ _ f u d0
  | cons y r =>
   obtain⟨cc,rfl⟩:∃cc,c1=cc+2:=⟨c1-2,by simp only [List.length_cons] at hnc;omega⟩
   have:=patom_call 0 0 0 g o cc r.length a2 l.length c2 f (y::r) (by simp) (by simp only [List.length_cons] at h2';omega) u hcl2
   simpa using this
 ·omega
 ·omega
 ·omega
theorem node_not (w0:World) (p:Nat) (so nn mm:Int) (a1:Option Addr) (nl c1:Nat) (x:Nd) (g o c2:Nat) (xo:Int) (xn1:Option Addr) (xn2 xn3:Nat) (xs xm xq:Int) (xl1:Option Addr) (xl2 xl3:Nat) (last:Bool) (w:World) (ts:List (List UInt8)) (hW:WrI w0 w p ts) (hPE:∀u,Upto [] w0 u→PEnv u∧SEnv u)
  (hx0:w0.cell? ⟨g,o,none⟩=some (.int .i64 xo)) (hx1:w0.cell? ⟨g,o+1,none⟩=some (.slice xn1 xn2 xn3)) (hx2:w0.cell? ⟨g,o+2,none⟩=some (.int .i64 xs)) (hx3:w0.cell? ⟨g,o+3,none⟩=some (.int .i64 xm)) (hx4:w0.cell? ⟨g,o+4,none⟩=some (.int .i64 xq)) (hx5:w0.cell? ⟨g,o+5,none⟩=some (.slice xl1 xl2 xl3))
  (hNx:NodeP w0 p x (.agg #[.int .i64 xo,.slice xn1 xn2 xn3,.int .i64 xs,.int .i64 xm,.int .i64 xq,.slice xl1 xl2 xl3])) (hxo:0≤xo∧xo≤17) (b:Bool) (hb:(decide (strI xo<5)||(decide (15<xo)&&!last))=b) (hlen:ts.length+(parT b (prT true x) (prT last x)).length+1≤1000000000000) :
  Calls Tryz.prog 71 #[.pointer (some ⟨p,0,none⟩),.agg #[.int .i64 11,.slice a1 nl c1,.int .i64 so,.int .i64 nn,.int .i64 mm,.slice (some ⟨g,o,none⟩) 1 c2],.bool last] w fun e w'=>e=.returned (.tuple #[])∧WrI w0 w' p (ts++[[110,111,116]]++txs (parT b (prT true x) (prT last x)))∧WrK w w' p:=by
 have u1:Upto [] w (w.alloc (.cells #[.pointer (some ⟨p,0,none⟩)] 99)):=(Upto.refl [] w).alloc _
 have u2:Upto [] (w.alloc (.cells #[.pointer (some ⟨p,0,none⟩)] 99)) ((w.alloc (.cells #[.pointer (some ⟨p,0,none⟩)] 99)).alloc (.cells #[.int .i64 11,.slice a1 nl c1,.int .i64 so,.int .i64 nn,.int .i64 mm,.slice (some ⟨g,o,none⟩) 1 c2] 34)):=(Upto.refl [] _).alloc _
 have u3:Upto [] ((w.alloc (.cells #[.pointer (some ⟨p,0,none⟩)] 99)).alloc (.cells #[.int .i64 11,.slice a1 nl c1,.int .i64 so,.int .i64 nn,.int .i64 mm,.slice (some ⟨g,o,none⟩) 1 c2] 34)) (((w.alloc (.cells #[.pointer (some ⟨p,0,none⟩)] 99)).alloc (.cells #[.int .i64 11,.slice a1 nl c1,.int .i64 so,.int .i64 nn,.int .i64 mm,.slice (some ⟨g,o,none⟩) 1 c2] 34)).alloc (.cells #[.bool last] 4)):=(Upto.refl [] _).alloc _
 have hw1:=hW.ext u1
 have hw2:=hw1.ext u2
 have HW3:=Lib.hid (hw2.ext u3)
 have K3:=Lib.hid ((hw2.keep u3).2 _ _ ((hw1.keep u2).2 _ _ (hW.fresh #[.pointer (some ⟨p,0,none⟩)] 99)))
 have K4:=Lib.hid ((hw2.keep u3).2 _ _ (hw1.fresh #[.int .i64 11,.slice a1 nl c1,.int .i64 so,.int .i64 nn,.int .i64 mm,.slice (some ⟨g,o,none⟩) 1 c2] 34))
 have K5:=Lib.hid (hw2.fresh #[.bool last] 4)
 have HK3:=Lib.hid (((hW.keep u1).trans (hw1.keep u2)).trans (hw2.keep u3))
 have z1:(w.alloc (.cells #[.pointer (some ⟨p,0,none⟩)] 99)).heap.size=w.heap.size+1:=by simp
 have z2:((w.alloc (.cells #[.pointer (some ⟨p,0,none⟩)] 99)).alloc (.cells #[.int .i64 11,.slice a1 nl c1,.int .i64 so,.int .i64 nn,.int .i64 mm,.slice (some ⟨g,o,none⟩) 1 c2] 34)).heap.size=w.heap.size+1+1:=by simp
 rw [z1] at K4
 rw [z2] at K5
 clear u1 u2 u3 hw1 hw2 z1 z2
 have HP:=Lib.hid (fun u yy (hu:WrI w0 u p ts) (hy:SlC u yy ([[110,111,116]].map sV))=>kXq w0 u p ts [[110,111,116]] yy hu hy (by simp;omega))
 have HC:=Lib.hid (fun u (hu:WrI w0 u p (ts++[[110,111,116]]))=>poperand_calls xo xs xm xq xn1 xn2 xn3 xl1 xl2 xl3 w0 p x 5 last b u _ hNx hxo.1 hxo.2 hb hu (fun u hu=>(hPE u hu).1) (by rw [List.length_append];simp;omega))
 have HST:=Lib.hid (fun u (hu:Upto [] w0 u)=>kTq 11 so nn mm a1 nl c1 (some ⟨g,o,none⟩) 1 c2 u (hPE u hu).1 (by decide) (by decide))
 have HSV:Hid (strI 11=5):=Lib.hid rfl
 rw [HSV.out] at HST
 have HPW:=Lib.hid (fun u (hu:Upto [] w0 u)=>(hPE u hu).1.word 11 _ rfl)
 have HCX:=Lib.hid (And.intro hx0 (And.intro hx1 (And.intro hx2 (And.intro hx3 (And.intro hx4 hx5)))))
 clear hW hPE hlen hb hNx hx0 hx1 hx2 hx3 hx4 hx5 hxo
 go_enter Tryz.func71,Tryz.ntmps71
 go_wp2_with fail
 refine (HST.out _ HW3.out.up).mono ?_
 rintro e w5 ⟨rfl,hu5⟩
 have HW5:=Lib.hid (HW3.out.ext hu5)
 have HX:=Lib.hid (HW3.out.keep hu5)
 have HK5:=Lib.hid (HK3.out.trans HX.out)
 have K35:=Lib.hid (HX.out.2 _ _ K3.out)
 have K45:=Lib.hid (HX.out.2 _ _ K4.out)
 have K55:=Lib.hid (HX.out.2 _ _ K5.out)
 clear hu5
 have h3:=kAz K35.out.1 0
 have h4:=kAz K45.out.1 0
 have hpw:=HPW.out _ HW5.out.up
 simp only [List.getElem?_toArray,List.getElem?_cons_zero] at h3 h4
 go_wp2_with fail
 have e3:=fun u:Ext w5=>u.cell h3
 have e4:=fun u:Ext w5=>u.cell h4
 have ew:=fun u:Ext w5=>u.cell hpw
 clear h3 h4 hpw
 refine kFk [5] [] [0,1,2,3,4,5] [6] 6 (by kernel_rfl) (by kernel_rfl) (by kernel_rfl) ?_
 iterate 5 (refine kCq rfl rfl rfl rfl rfl ?_;intro K' hK';go_big_quiet_op;go_big_quiet_on)
 refine kYw (Y:=Nat) (fun b=>.slice (some ⟨b,0,none⟩) 1 1) (fun b u=>u.heap[b]?=some (.cells #[.string ⟨[110,111,116].toArray⟩] 9 (0,0))) (fun _=>[]) rfl rfl rfl rfl (fun _ _ _ h hu=>hu.at h (by simp)) (fun _=>List.nodup_nil) (fun w' post hu hd hp=>(congrArg (kNj Tryz.prog post) (show _=Result.ok (Next.value (.slice (some ⟨w'.heap.size,0,none⟩) 1 1)) (w'.alloc (.cells #[.string ⟨[110,111,116].toArray⟩] 9)) from by go_simp)).mpr (hp w'.heap.size _ ((Upto.refl [] w').alloc _) (kAq _ _) (fun b hb=>by cases hb))) ?_
 intro b8
 simp only [Act.put,List.setIfInBounds_toArray,List.set_cons_zero,List.set_cons_succ]
 intro w10 hg
 have HG:=Lib.hid hg.up
 have HB8:Hid (w10.heap[b8]?=some (.cells #[.string ⟨[110,111,116].toArray⟩] 9 (0,0))):=Lib.hid hg.hold.1
 simp only [List.drop_succ_cons,List.drop_zero]
 clear hg
 go_wp2_with fail
 refine (HP.out _ _ (HW5.out.ext HG.out) (kLq HB8.out 1 [sV [110,111,116]] (fun j u hj=>by simpa [sV] using hj))).mono ?_
 rintro e w6 ⟨rfl,hw6,hk6⟩
 have HW6:=Lib.hid hw6
 have HX6:=Lib.hid (WrK.trans (HW5.out.keep HG.out) hk6)
 have HK6:=Lib.hid (HK5.out.trans HX6.out)
 have h3:=kAz (HX6.out.2 _ _ K35.out).1 0
 have h4:=kAz (HX6.out.2 _ _ K45.out).1 5
 have h5:=kAz (HX6.out.2 _ _ K55.out).1 0
 simp only [List.getElem?_toArray,List.getElem?_cons_zero,List.getElem?_cons_succ] at h3 h4 h5
 have cy0:=hw6.cell HCX.out.1
 have cy1:=hw6.cell HCX.out.2.1
 have cy2:=hw6.cell HCX.out.2.2.1
 have cy3:=hw6.cell HCX.out.2.2.2.1
 have cy4:=hw6.cell HCX.out.2.2.2.2.1
 have cy5:=hw6.cell HCX.out.2.2.2.2.2
 have q3:=fun u:Ext w6=>u.cell h3
 have q4:=fun u:Ext w6=>u.cell h4
 have q5:=fun u:Ext w6=>u.cell h5
 have ey0:=fun u:Ext w6=>u.cell cy0
 have ey1:=fun u:Ext w6=>u.cell cy1
 have ey2:=fun u:Ext w6=>u.cell cy2
 have ey3:=fun u:Ext w6=>u.cell cy3
 have ey4:=fun u:Ext w6=>u.cell cy4
 have ey5:=fun u:Ext w6=>u.cell cy5
 clear hw6 hk6 HG HB8 h3 h4 h5 e3 e4 ew cy0 cy1 cy2 cy3 cy4 cy5
 go_wp2_with fail
 refine kFk [] [] [0,1,2,3,4,5,6] [7] 7 (by kernel_rfl) (by kernel_rfl) (by kernel_rfl) ?_
 iterate 7 (refine kCq rfl rfl rfl rfl rfl ?_;intro K' hK';go_big_quiet_op;go_big_quiet_on)
 intro w11 hg
 have HG:=Lib.hid hg.up
 simp only [List.drop_succ_cons,List.drop_zero]
 clear hg
 go_wp2_with fail
 refine (HC.out _ (HW6.out.ext HG.out)).mono ?_
 rintro e w7 ⟨rfl,hw7,hk7⟩
 have HW7:=Lib.hid hw7
 have HK7:=Lib.hid (HK6.out.trans (WrK.trans (HW6.out.keep HG.out) hk7))
 clear hw7 hk7
 go_wp2_with fail
 exact bodyPost_end (v:=.tuple #[]) (by simp [results,Tryz.results71,go_sem]) rfl ⟨rfl,HW7.out,HK7.out⟩
theorem node_qu (w0:World) (p:Nat) (k:Nat) (so nn mm:Int) (a1:Option Addr) (c1:Nat) (x:Nd) (g o c2:Nat) (xo:Int) (xn1:Option Addr) (xn2 xn3:Nat) (xs xm xq:Int) (xl1:Option Addr) (xl2 xl3:Nat) (last:Bool) (nm:List UInt8) (w:World) (ts:List (List UInt8)) (hW:WrI w0 w p ts) (hPE:∀u,Upto [] w0 u→PEnv u∧SEnv u)
  (hx0:w0.cell? ⟨g,o,none⟩=some (.int .i64 xo)) (hx1:w0.cell? ⟨g,o+1,none⟩=some (.slice xn1 xn2 xn3)) (hx2:w0.cell? ⟨g,o+2,none⟩=some (.int .i64 xs)) (hx3:w0.cell? ⟨g,o+3,none⟩=some (.int .i64 xm)) (hx4:w0.cell? ⟨g,o+4,none⟩=some (.int .i64 xq)) (hx5:w0.cell? ⟨g,o+5,none⟩=some (.slice xl1 xl2 xl3))
  (hNx:NodeP w0 p x (.agg #[.int .i64 xo,.slice xn1 xn2 xn3,.int .i64 xs,.int .i64 xm,.int .i64 xq,.slice xl1 xl2 xl3])) (hk16:16≤k) (hk17:k≤17) (hnm:∃gn og,a1=some ⟨gn,og,none⟩∧w0.cell? ⟨gn,og,none⟩=some (.string ⟨nm.toArray⟩)) (hlen:ts.length+4+(prT true x).length≤1000000000000) :
  Calls Tryz.prog 71 #[.pointer (some ⟨p,0,none⟩),.agg #[.int .i64 (k:Int),.slice a1 1 c1,.int .i64 so,.int .i64 nn,.int .i64 mm,.slice (some ⟨g,o,none⟩) 1 c2],.bool last] w fun e w'=>e=.returned (.tuple #[])∧WrI w0 w' p (ts++[quW (k:Int),kOj so,nm,[58]]++txs (prT true x))∧WrK w w' p:=by
 have u1:Upto [] w (w.alloc (.cells #[.pointer (some ⟨p,0,none⟩)] 99)):=(Upto.refl [] w).alloc _
 have u2:Upto [] (w.alloc (.cells #[.pointer (some ⟨p,0,none⟩)] 99)) ((w.alloc (.cells #[.pointer (some ⟨p,0,none⟩)] 99)).alloc (.cells #[.int .i64 (k:Int),.slice a1 1 c1,.int .i64 so,.int .i64 nn,.int .i64 mm,.slice (some ⟨g,o,none⟩) 1 c2] 34)):=(Upto.refl [] _).alloc _
 have u3:Upto [] ((w.alloc (.cells #[.pointer (some ⟨p,0,none⟩)] 99)).alloc (.cells #[.int .i64 (k:Int),.slice a1 1 c1,.int .i64 so,.int .i64 nn,.int .i64 mm,.slice (some ⟨g,o,none⟩) 1 c2] 34)) (((w.alloc (.cells #[.pointer (some ⟨p,0,none⟩)] 99)).alloc (.cells #[.int .i64 (k:Int),.slice a1 1 c1,.int .i64 so,.int .i64 nn,.int .i64 mm,.slice (some ⟨g,o,none⟩) 1 c2] 34)).alloc (.cells #[.bool last] 4)):=(Upto.refl [] _).alloc _
 have hw1:=hW.ext u1
 have hw2:=hw1.ext u2
 have HW3:=Lib.hid (hw2.ext u3)
 have K3:=Lib.hid ((hw2.keep u3).2 _ _ ((hw1.keep u2).2 _ _ (hW.fresh #[.pointer (some ⟨p,0,none⟩)] 99)))
 have K4:=Lib.hid ((hw2.keep u3).2 _ _ (hw1.fresh #[.int .i64 (k:Int),.slice a1 1 c1,.int .i64 so,.int .i64 nn,.int .i64 mm,.slice (some ⟨g,o,none⟩) 1 c2] 34))
 have K5:=Lib.hid (hw2.fresh #[.bool last] 4)
 have HK3:=Lib.hid (((hW.keep u1).trans (hw1.keep u2)).trans (hw2.keep u3))
 have z1:(w.alloc (.cells #[.pointer (some ⟨p,0,none⟩)] 99)).heap.size=w.heap.size+1:=by simp
 have z2:((w.alloc (.cells #[.pointer (some ⟨p,0,none⟩)] 99)).alloc (.cells #[.int .i64 (k:Int),.slice a1 1 c1,.int .i64 so,.int .i64 nn,.int .i64 mm,.slice (some ⟨g,o,none⟩) 1 c2] 34)).heap.size=w.heap.size+1+1:=by simp
 rw [z1] at K4
 rw [z2] at K5
 clear u1 u2 u3 hw1 hw2 z1 z2
 obtain⟨T,hT⟩:∃T,T=[quW (k:Int),kOj so,nm,[58]]:=⟨_,rfl⟩
 have hTl:T.length=4:=by rw [hT];rfl
 have HQT:=Lib.hid (fun u (hu:Upto [] w0 u)=>quantifier_calls (k:Int) so nn mm a1 1 c1 (some ⟨g,o,none⟩) 1 c2 nm u (hPE u hu).1 (hPE u hu).2 (by omega) (by omega) (by obtain⟨gn,og,e1,e2⟩:=hnm;exact⟨gn,og,e1,(hu.cell (World.block_lt_of_cell? w0 _ e2) (by simp)).trans e2⟩) (by omega))
 rw [←hT] at HQT ⊢
 have HP:=Lib.hid (fun u yy (hu:WrI w0 u p ts) (hy:SlC u yy (T.map sV))=>kXq w0 u p ts T yy hu hy (by omega))
 have HC:=Lib.hid (fun u (hu:WrI w0 u p (ts++T))=>hNx true u _ hu (by rw [List.length_append];omega))
 have HST:=Lib.hid (fun u (hu:Upto [] w0 u)=>by
  have h:=kTq (k:Int) so nn mm a1 1 c1 (some ⟨g,o,none⟩) 1 c2 u (hPE u hu).1 (by omega) (by omega)
  rwa [show strI (k:Int)=5 by unfold strI;rw [if_neg (by omega),if_neg (by omega),if_neg (by omega),if_neg (by omega),if_pos (by omega)]] at h)
 have HBD:=Lib.hid (fun u=>by
  have h:=kUq (k:Int) so nn mm a1 1 c1 (some ⟨g,o,none⟩) 1 c2 u (by omega)
  rwa [decide_eq_true (show (15:Int)<k by omega)] at h)
 have HCX:=Lib.hid (And.intro hx0 (And.intro hx1 (And.intro hx2 (And.intro hx3 (And.intro hx4 hx5)))))
 have q11:((k:Int)==11)=false:=by rw [beq_eq_false_iff_ne];omega
 clear hW hPE hlen hNx hx0 hx1 hx2 hx3 hx4 hx5 hnm hT hTl hk16 hk17
 go_enter Tryz.func71,Tryz.ntmps71
 go_wp2_with fail
 refine (HST.out _ HW3.out.up).mono ?_
 rintro e w5 ⟨rfl,hu5⟩
 have HW5:=Lib.hid (HW3.out.ext hu5)
 have HX:=Lib.hid (HW3.out.keep hu5)
 have HK5:=Lib.hid (HK3.out.trans HX.out)
 have K35:=Lib.hid (HX.out.2 _ _ K3.out)
 have K45:=Lib.hid (HX.out.2 _ _ K4.out)
 have K55:=Lib.hid (HX.out.2 _ _ K5.out)
 clear hu5
 have h4:=K45.out.1
 obtain⟨y0,y1,y2,y3,y4,y5⟩:=kAx h4
 clear h4
 go_wp2_with fail
 refine (HBD.out _).mono ?_
 rintro e w6 ⟨rfl,hu6⟩
 have HW6:=Lib.hid (HW5.out.ext hu6)
 have HX6:=Lib.hid (HW5.out.keep hu6)
 have HK6:=Lib.hid (HK5.out.trans HX6.out)
 have K36:=Lib.hid (HX6.out.2 _ _ K35.out)
 have K46:=Lib.hid (HX6.out.2 _ _ K45.out)
 have K56:=Lib.hid (HX6.out.2 _ _ K55.out)
 have h3:=kAz K36.out.1 0
 simp only [List.getElem?_toArray,List.getElem?_cons_zero] at h3
 have h4:=K46.out.1
 obtain⟨z0,z1,z2,z3,z4,z5⟩:=kAx h4
 have e3:=fun u:Ext w6=>u.cell h3
 have e0:=fun u:Ext w6=>u.cell z0
 have e1:=fun u:Ext w6=>u.cell z1
 have e2:=fun u:Ext w6=>u.cell z2
 have e4:=fun u:Ext w6=>u.cell z3
 have e5:=fun u:Ext w6=>u.cell z4
 have e6:=fun u:Ext w6=>u.cell z5
 clear hu6 h3 h4 y0 y1 y2 y3 y4 y5 z0 z1 z2 z3 z4 z5
 go_wp2_with fail
 refine kFk [2] [] [0,1,2] [3] 3 (by kernel_rfl) (by kernel_rfl) (by kernel_rfl) ?_
 iterate 2 (refine kCq rfl rfl rfl rfl rfl ?_;intro K' hK';go_big_quiet_op;go_big_quiet_on)
 refine seg_callO (Y:=Option Addr×Nat) (fun y=>.slice y.1 T.length y.2) (fun y u=>SlC u (.slice y.1 T.length y.2) (T.map sV)) (fun _=>[]) rfl rfl rfl rfl (fun _ _ _ h hu=>SlC.ext h hu) (fun _=>List.nodup_nil) (fun w=>by go_simp) (fun w' hu hd=>(HQT.out w' (HW6.out.up.trans_ext hu)).mono fun e w2 ⟨v,h1,h2,h3⟩=>by
   obtain⟨ya,yc,hy⟩:=h2.len
   rw [List.length_map] at hy
   subst hy
   exact⟨(ya,yc),h1,h3.1,h2,fun b hb=>by cases hb⟩) ?_
 rintro⟨ya,yc⟩
 simp only [Act.put,List.setIfInBounds_toArray,List.set_cons_zero,List.set_cons_succ]
 intro w9 hg
 have HG:=Lib.hid hg.up
 have HY:Hid (SlC w9 (.slice ya T.length yc) (T.map sV)):=Lib.hid hg.hold.1
 simp only [List.drop_succ_cons,List.drop_zero]
 clear hg
 go_wp2_with fail
 refine (HP.out _ _ (HW6.out.ext HG.out) HY.out).mono ?_
 rintro e w7 ⟨rfl,hw7,hk7⟩
 have HW7:=Lib.hid hw7
 have HX7:=Lib.hid (WrK.trans (HW6.out.keep HG.out) hk7)
 have HK7:=Lib.hid (HK6.out.trans HX7.out)
 have h3:=kAz (HX7.out.2 _ _ K36.out).1 0
 have h4:=kAz (HX7.out.2 _ _ K46.out).1 5
 simp only [List.getElem?_toArray,List.getElem?_cons_zero,List.getElem?_cons_succ] at h3 h4
 have cy0:=hw7.cell HCX.out.1
 have cy1:=hw7.cell HCX.out.2.1
 have cy2:=hw7.cell HCX.out.2.2.1
 have cy3:=hw7.cell HCX.out.2.2.2.1
 have cy4:=hw7.cell HCX.out.2.2.2.2.1
 have cy5:=hw7.cell HCX.out.2.2.2.2.2
 have q3:=fun u:Ext w7=>u.cell h3
 have q4:=fun u:Ext w7=>u.cell h4
 have ey0:=fun u:Ext w7=>u.cell cy0
 have ey1:=fun u:Ext w7=>u.cell cy1
 have ey2:=fun u:Ext w7=>u.cell cy2
 have ey3:=fun u:Ext w7=>u.cell cy3
 have ey4:=fun u:Ext w7=>u.cell cy4
 have ey5:=fun u:Ext w7=>u.cell cy5
 clear hw7 hk7 HG HY h3 h4 e0 e1 e2 e3 e4 e5 e6 cy0 cy1 cy2 cy3 cy4 cy5
 go_wp2_with fail
 refine kFk [] [] [0,1,2,3,4] [5] 5 (by kernel_rfl) (by kernel_rfl) (by kernel_rfl) ?_
 iterate 5 (refine kCq rfl rfl rfl rfl rfl ?_;intro K' hK';go_big_quiet_op;go_big_quiet_on)
 intro w11 hg
 have HG:=Lib.hid hg.up
 simp only [List.drop_succ_cons,List.drop_zero]
 clear hg
 go_wp2_with fail
 refine (HC.out _ (HW7.out.ext HG.out)).mono ?_
 rintro e w8 ⟨rfl,hw8,hk8⟩
 have HW8:=Lib.hid hw8
 have HK8:=Lib.hid (HK7.out.trans (WrK.trans (HW7.out.keep HG.out) hk8))
 clear hw8 hk8
 go_wp2_with fail
 exact bodyPost_end (v:=.tuple #[]) (by simp [results,Tryz.results71,go_sem]) rfl ⟨rfl,HW8.out,HK8.out⟩
theorem node_b12 (w0:World) (p:Nat) (so nn mm:Int) (a1:Option Addr) (nl c1:Nat) (x y:Nd) (g o c2:Nat) (xo:Int) (xn1:Option Addr) (xn2 xn3:Nat) (xs xm xq:Int) (xl1:Option Addr) (xl2 xl3:Nat) (yo:Int) (yn1:Option Addr) (yn2 yn3:Nat) (ys ym yq:Int) (yl1:Option Addr) (yl2 yl3:Nat) (last:Bool) (w:World) (ts:List (List UInt8)) (hW:WrI w0 w p ts) (hPE:∀u,Upto [] w0 u→PEnv u∧SEnv u)
  (hx0:w0.cell? ⟨g,o,none⟩=some (.int .i64 xo)) (hx1:w0.cell? ⟨g,o+1,none⟩=some (.slice xn1 xn2 xn3)) (hx2:w0.cell? ⟨g,o+2,none⟩=some (.int .i64 xs)) (hx3:w0.cell? ⟨g,o+3,none⟩=some (.int .i64 xm)) (hx4:w0.cell? ⟨g,o+4,none⟩=some (.int .i64 xq)) (hx5:w0.cell? ⟨g,o+5,none⟩=some (.slice xl1 xl2 xl3))
  (hy0:w0.cell? ⟨g,o+6,none⟩=some (.int .i64 yo)) (hy1:w0.cell? ⟨g,o+6+1,none⟩=some (.slice yn1 yn2 yn3)) (hy2:w0.cell? ⟨g,o+6+2,none⟩=some (.int .i64 ys)) (hy3:w0.cell? ⟨g,o+6+3,none⟩=some (.int .i64 ym)) (hy4:w0.cell? ⟨g,o+6+4,none⟩=some (.int .i64 yq)) (hy5:w0.cell? ⟨g,o+6+5,none⟩=some (.slice yl1 yl2 yl3))
  (hNx:NodeP w0 p x (.agg #[.int .i64 xo,.slice xn1 xn2 xn3,.int .i64 xs,.int .i64 xm,.int .i64 xq,.slice xl1 xl2 xl3])) (hNy:NodeP w0 p y (.agg #[.int .i64 yo,.slice yn1 yn2 yn3,.int .i64 ys,.int .i64 ym,.int .i64 yq,.slice yl1 yl2 yl3])) (hxo:0≤xo∧xo≤17) (hyo:0≤yo∧yo≤17)
  (hlen:ts.length+(parT (parB 12 0 xo false) (prT true x) (prT false x)).length+1+(parT (parB 12 1 yo last) (prT true y) (prT last y)).length≤1000000000000) :
  Calls Tryz.prog 71 #[.pointer (some ⟨p,0,none⟩),.agg #[.int .i64 12,.slice a1 nl c1,.int .i64 so,.int .i64 nn,.int .i64 mm,.slice (some ⟨g,o,none⟩) 2 c2],.bool last] w fun e w'=>e=.returned (.tuple #[])∧WrI w0 w' p (ts++txs (parT (parB 12 0 xo false) (prT true x) (prT false x))++[conW 12]++txs (parT (parB 12 1 yo last) (prT true y) (prT last y)))∧WrK w w' p:=by
 have u1:Upto [] w (w.alloc (.cells #[.pointer (some ⟨p,0,none⟩)] 99)):=(Upto.refl [] w).alloc _
 have u2:Upto [] (w.alloc (.cells #[.pointer (some ⟨p,0,none⟩)] 99)) ((w.alloc (.cells #[.pointer (some ⟨p,0,none⟩)] 99)).alloc (.cells #[.int .i64 12,.slice a1 nl c1,.int .i64 so,.int .i64 nn,.int .i64 mm,.slice (some ⟨g,o,none⟩) 2 c2] 34)):=(Upto.refl [] _).alloc _
 have u3:Upto [] ((w.alloc (.cells #[.pointer (some ⟨p,0,none⟩)] 99)).alloc (.cells #[.int .i64 12,.slice a1 nl c1,.int .i64 so,.int .i64 nn,.int .i64 mm,.slice (some ⟨g,o,none⟩) 2 c2] 34)) (((w.alloc (.cells #[.pointer (some ⟨p,0,none⟩)] 99)).alloc (.cells #[.int .i64 12,.slice a1 nl c1,.int .i64 so,.int .i64 nn,.int .i64 mm,.slice (some ⟨g,o,none⟩) 2 c2] 34)).alloc (.cells #[.bool last] 4)):=(Upto.refl [] _).alloc _
 have hw1:=hW.ext u1
 have hw2:=hw1.ext u2
 have HW3:=Lib.hid (hw2.ext u3)
 have K3:=Lib.hid ((hw2.keep u3).2 _ _ ((hw1.keep u2).2 _ _ (hW.fresh #[.pointer (some ⟨p,0,none⟩)] 99)))
 have K4:=Lib.hid ((hw2.keep u3).2 _ _ (hw1.fresh #[.int .i64 12,.slice a1 nl c1,.int .i64 so,.int .i64 nn,.int .i64 mm,.slice (some ⟨g,o,none⟩) 2 c2] 34))
 have K5:=Lib.hid (hw2.fresh #[.bool last] 4)
 have HK3:=Lib.hid (((hW.keep u1).trans (hw1.keep u2)).trans (hw2.keep u3))
 have z1:(w.alloc (.cells #[.pointer (some ⟨p,0,none⟩)] 99)).heap.size=w.heap.size+1:=by simp
 have z2:((w.alloc (.cells #[.pointer (some ⟨p,0,none⟩)] 99)).alloc (.cells #[.int .i64 12,.slice a1 nl c1,.int .i64 so,.int .i64 nn,.int .i64 mm,.slice (some ⟨g,o,none⟩) 2 c2] 34)).heap.size=w.heap.size+1+1:=by simp
 rw [z1] at K4
 rw [z2] at K5
 clear u1 u2 u3 hw1 hw2 z1 z2
 have HTW:=Lib.hid (fun u (hu:WrI w0 u p ts) (k3:Kp u p w.heap.size (.cells #[.pointer (some ⟨p,0,none⟩)] 99 (0,0))) (k4:Kp u p (w.heap.size+1) (.cells #[.int .i64 12,.slice a1 nl c1,.int .i64 so,.int .i64 nn,.int .i64 mm,.slice (some ⟨g,o,none⟩) 2 c2] 34 (0,0))) (k5:Kp u p (w.heap.size+1+1) (.cells #[.bool last] 4 (0,0))) =>
  two_calls w0 u p ts 12 so nn mm a1 nl c1 x y g o c2 xo xn1 xn2 xn3 xs xm xq xl1 xl2 xl3 yo yn1 yn2 yn3 ys ym yq yl1 yl2 yl3 last w.heap.size (w.heap.size+1) (w.heap.size+1+1) 4 5 (conW 12) hu k3 k4 k5 hx0 hx1 hx2 hx3 hx4 hx5 hy0 hy1 hy2 hy3 hy4 hy5 hNx hNy hxo hyo (fun u hu=>(hPE u hu).1) (by decide) rfl _ _ (par_str (op:=12) (place:=0) hxo.1 hxo.2 (by decide) (by decide) (by decide) false).symm (par_str (op:=12) (place:=1) hyo.1 hyo.2 (by decide) (by decide) (by decide) last).symm hlen)
 have HST:=Lib.hid (fun u (hu:Upto [] w0 u)=>kTq 12 so nn mm a1 nl c1 (some ⟨g,o,none⟩) 2 c2 u (hPE u hu).1 (by decide) (by decide))
 have HSV:Hid (strI 12=4):=Lib.hid rfl
 rw [HSV.out] at HST
 have HBD:=Lib.hid (fun u=>by
  have h:=kUq 12 so nn mm a1 nl c1 (some ⟨g,o,none⟩) 2 c2 u (by decide)
  rwa [show decide ((15:Int)<12)=false from rfl] at h)
 clear hW hPE hlen hNx hNy hx0 hx1 hx2 hx3 hx4 hx5 hy0 hy1 hy2 hy3 hy4 hy5 hxo hyo
 go_enter Tryz.func71,Tryz.ntmps71
 go_wp2_with fail
 refine (HST.out _ HW3.out.up).mono ?_
 rintro e w5 ⟨rfl,hu5⟩
 have HW5:=Lib.hid (HW3.out.ext hu5)
 have HX:=Lib.hid (HW3.out.keep hu5)
 have HK5:=Lib.hid (HK3.out.trans HX.out)
 have K35:=Lib.hid (HX.out.2 _ _ K3.out)
 have K45:=Lib.hid (HX.out.2 _ _ K4.out)
 have K55:=Lib.hid (HX.out.2 _ _ K5.out)
 clear hu5
 have h4:=K45.out.1
 obtain⟨y0,y1,y2,y3,y4,y5⟩:=kAx h4
 clear h4
 go_wp2_with fail
 refine (HBD.out _).mono ?_
 rintro e w6 ⟨rfl,hu6⟩
 have HW6:=Lib.hid (HW5.out.ext hu6)
 have HX6:=Lib.hid (HW5.out.keep hu6)
 have HK6:=Lib.hid (HK5.out.trans HX6.out)
 have K36:=Lib.hid (HX6.out.2 _ _ K35.out)
 have K46:=Lib.hid (HX6.out.2 _ _ K45.out)
 have K56:=Lib.hid (HX6.out.2 _ _ K55.out)
 have h4:=K46.out.1
 obtain⟨z0,z1,z2,z3,z4,z5⟩:=kAx h4
 clear hu6 h4 y0 y1 y2 y3 y4 y5
 go_wp2_with fail
 refine (HTW.out _ HW6.out K36.out K46.out K56.out).mono ?_
 rintro e w7 ⟨rfl,hw7,hk7⟩
 have HW7:=Lib.hid hw7
 have HK7:=Lib.hid (HK6.out.trans hk7)
 clear hw7 hk7
 go_wp2_with fail
 exact bodyPost_end (v:=.tuple #[]) (by simp [results,Tryz.results71,go_sem]) rfl ⟨rfl,HW7.out,HK7.out⟩
theorem node_b13 (w0:World) (p:Nat) (so nn mm:Int) (a1:Option Addr) (nl c1:Nat) (x y:Nd) (g o c2:Nat) (xo:Int) (xn1:Option Addr) (xn2 xn3:Nat) (xs xm xq:Int) (xl1:Option Addr) (xl2 xl3:Nat) (yo:Int) (yn1:Option Addr) (yn2 yn3:Nat) (ys ym yq:Int) (yl1:Option Addr) (yl2 yl3:Nat) (last:Bool) (w:World) (ts:List (List UInt8)) (hW:WrI w0 w p ts) (hPE:∀u,Upto [] w0 u→PEnv u∧SEnv u)
  (hx0:w0.cell? ⟨g,o,none⟩=some (.int .i64 xo)) (hx1:w0.cell? ⟨g,o+1,none⟩=some (.slice xn1 xn2 xn3)) (hx2:w0.cell? ⟨g,o+2,none⟩=some (.int .i64 xs)) (hx3:w0.cell? ⟨g,o+3,none⟩=some (.int .i64 xm)) (hx4:w0.cell? ⟨g,o+4,none⟩=some (.int .i64 xq)) (hx5:w0.cell? ⟨g,o+5,none⟩=some (.slice xl1 xl2 xl3))
  (hy0:w0.cell? ⟨g,o+6,none⟩=some (.int .i64 yo)) (hy1:w0.cell? ⟨g,o+6+1,none⟩=some (.slice yn1 yn2 yn3)) (hy2:w0.cell? ⟨g,o+6+2,none⟩=some (.int .i64 ys)) (hy3:w0.cell? ⟨g,o+6+3,none⟩=some (.int .i64 ym)) (hy4:w0.cell? ⟨g,o+6+4,none⟩=some (.int .i64 yq)) (hy5:w0.cell? ⟨g,o+6+5,none⟩=some (.slice yl1 yl2 yl3))
  (hNx:NodeP w0 p x (.agg #[.int .i64 xo,.slice xn1 xn2 xn3,.int .i64 xs,.int .i64 xm,.int .i64 xq,.slice xl1 xl2 xl3])) (hNy:NodeP w0 p y (.agg #[.int .i64 yo,.slice yn1 yn2 yn3,.int .i64 ys,.int .i64 ym,.int .i64 yq,.slice yl1 yl2 yl3])) (hxo:0≤xo∧xo≤17) (hyo:0≤yo∧yo≤17)
  (hlen:ts.length+(parT (parB 13 0 xo false) (prT true x) (prT false x)).length+1+(parT (parB 13 1 yo last) (prT true y) (prT last y)).length≤1000000000000) :
  Calls Tryz.prog 71 #[.pointer (some ⟨p,0,none⟩),.agg #[.int .i64 13,.slice a1 nl c1,.int .i64 so,.int .i64 nn,.int .i64 mm,.slice (some ⟨g,o,none⟩) 2 c2],.bool last] w fun e w'=>e=.returned (.tuple #[])∧WrI w0 w' p (ts++txs (parT (parB 13 0 xo false) (prT true x) (prT false x))++[conW 13]++txs (parT (parB 13 1 yo last) (prT true y) (prT last y)))∧WrK w w' p:=by
 have u1:Upto [] w (w.alloc (.cells #[.pointer (some ⟨p,0,none⟩)] 99)):=(Upto.refl [] w).alloc _
 have u2:Upto [] (w.alloc (.cells #[.pointer (some ⟨p,0,none⟩)] 99)) ((w.alloc (.cells #[.pointer (some ⟨p,0,none⟩)] 99)).alloc (.cells #[.int .i64 13,.slice a1 nl c1,.int .i64 so,.int .i64 nn,.int .i64 mm,.slice (some ⟨g,o,none⟩) 2 c2] 34)):=(Upto.refl [] _).alloc _
 have u3:Upto [] ((w.alloc (.cells #[.pointer (some ⟨p,0,none⟩)] 99)).alloc (.cells #[.int .i64 13,.slice a1 nl c1,.int .i64 so,.int .i64 nn,.int .i64 mm,.slice (some ⟨g,o,none⟩) 2 c2] 34)) (((w.alloc (.cells #[.pointer (some ⟨p,0,none⟩)] 99)).alloc (.cells #[.int .i64 13,.slice a1 nl c1,.int .i64 so,.int .i64 nn,.int .i64 mm,.slice (some ⟨g,o,none⟩) 2 c2] 34)).alloc (.cells #[.bool last] 4)):=(Upto.refl [] _).alloc _
 have hw1:=hW.ext u1
 have hw2:=hw1.ext u2
 have HW3:=Lib.hid (hw2.ext u3)
 have K3:=Lib.hid ((hw2.keep u3).2 _ _ ((hw1.keep u2).2 _ _ (hW.fresh #[.pointer (some ⟨p,0,none⟩)] 99)))
 have K4:=Lib.hid ((hw2.keep u3).2 _ _ (hw1.fresh #[.int .i64 13,.slice a1 nl c1,.int .i64 so,.int .i64 nn,.int .i64 mm,.slice (some ⟨g,o,none⟩) 2 c2] 34))
 have K5:=Lib.hid (hw2.fresh #[.bool last] 4)
 have HK3:=Lib.hid (((hW.keep u1).trans (hw1.keep u2)).trans (hw2.keep u3))
 have z1:(w.alloc (.cells #[.pointer (some ⟨p,0,none⟩)] 99)).heap.size=w.heap.size+1:=by simp
 have z2:((w.alloc (.cells #[.pointer (some ⟨p,0,none⟩)] 99)).alloc (.cells #[.int .i64 13,.slice a1 nl c1,.int .i64 so,.int .i64 nn,.int .i64 mm,.slice (some ⟨g,o,none⟩) 2 c2] 34)).heap.size=w.heap.size+1+1:=by simp
 rw [z1] at K4
 rw [z2] at K5
 clear u1 u2 u3 hw1 hw2 z1 z2
 have HTW:=Lib.hid (fun u (hu:WrI w0 u p ts) (k3:Kp u p w.heap.size (.cells #[.pointer (some ⟨p,0,none⟩)] 99 (0,0))) (k4:Kp u p (w.heap.size+1) (.cells #[.int .i64 13,.slice a1 nl c1,.int .i64 so,.int .i64 nn,.int .i64 mm,.slice (some ⟨g,o,none⟩) 2 c2] 34 (0,0))) (k5:Kp u p (w.heap.size+1+1) (.cells #[.bool last] 4 (0,0))) =>
  two_calls w0 u p ts 13 so nn mm a1 nl c1 x y g o c2 xo xn1 xn2 xn3 xs xm xq xl1 xl2 xl3 yo yn1 yn2 yn3 ys ym yq yl1 yl2 yl3 last w.heap.size (w.heap.size+1) (w.heap.size+1+1) 3 4 (conW 13) hu k3 k4 k5 hx0 hx1 hx2 hx3 hx4 hx5 hy0 hy1 hy2 hy3 hy4 hy5 hNx hNy hxo hyo (fun u hu=>(hPE u hu).1) (by decide) rfl _ _ (par_str (op:=13) (place:=0) hxo.1 hxo.2 (by decide) (by decide) (by decide) false).symm (par_str (op:=13) (place:=1) hyo.1 hyo.2 (by decide) (by decide) (by decide) last).symm hlen)
 have HST:=Lib.hid (fun u (hu:Upto [] w0 u)=>kTq 13 so nn mm a1 nl c1 (some ⟨g,o,none⟩) 2 c2 u (hPE u hu).1 (by decide) (by decide))
 have HSV:Hid (strI 13=3):=Lib.hid rfl
 rw [HSV.out] at HST
 have HBD:=Lib.hid (fun u=>by
  have h:=kUq 13 so nn mm a1 nl c1 (some ⟨g,o,none⟩) 2 c2 u (by decide)
  rwa [show decide ((15:Int)<13)=false from rfl] at h)
 clear hW hPE hlen hNx hNy hx0 hx1 hx2 hx3 hx4 hx5 hy0 hy1 hy2 hy3 hy4 hy5 hxo hyo
 go_enter Tryz.func71,Tryz.ntmps71
 go_wp2_with fail
 refine (HST.out _ HW3.out.up).mono ?_
 rintro e w5 ⟨rfl,hu5⟩
 have HW5:=Lib.hid (HW3.out.ext hu5)
 have HX:=Lib.hid (HW3.out.keep hu5)
 have HK5:=Lib.hid (HK3.out.trans HX.out)
 have K35:=Lib.hid (HX.out.2 _ _ K3.out)
 have K45:=Lib.hid (HX.out.2 _ _ K4.out)
 have K55:=Lib.hid (HX.out.2 _ _ K5.out)
 clear hu5
 have h4:=K45.out.1
 obtain⟨y0,y1,y2,y3,y4,y5⟩:=kAx h4
 clear h4
 go_wp2_with fail
 refine (HBD.out _).mono ?_
 rintro e w6 ⟨rfl,hu6⟩
 have HW6:=Lib.hid (HW5.out.ext hu6)
 have HX6:=Lib.hid (HW5.out.keep hu6)
 have HK6:=Lib.hid (HK5.out.trans HX6.out)
 have K36:=Lib.hid (HX6.out.2 _ _ K35.out)
 have K46:=Lib.hid (HX6.out.2 _ _ K45.out)
 have K56:=Lib.hid (HX6.out.2 _ _ K55.out)
 have h4:=K46.out.1
 obtain⟨z0,z1,z2,z3,z4,z5⟩:=kAx h4
 clear hu6 h4 y0 y1 y2 y3 y4 y5
 go_wp2_with fail
 refine (HTW.out _ HW6.out K36.out K46.out K56.out).mono ?_
 rintro e w7 ⟨rfl,hw7,hk7⟩
 have HW7:=Lib.hid hw7
 have HK7:=Lib.hid (HK6.out.trans hk7)
 clear hw7 hk7
 go_wp2_with fail
 exact bodyPost_end (v:=.tuple #[]) (by simp [results,Tryz.results71,go_sem]) rfl ⟨rfl,HW7.out,HK7.out⟩
theorem node_b14 (w0:World) (p:Nat) (so nn mm:Int) (a1:Option Addr) (nl c1:Nat) (x y:Nd) (g o c2:Nat) (xo:Int) (xn1:Option Addr) (xn2 xn3:Nat) (xs xm xq:Int) (xl1:Option Addr) (xl2 xl3:Nat) (yo:Int) (yn1:Option Addr) (yn2 yn3:Nat) (ys ym yq:Int) (yl1:Option Addr) (yl2 yl3:Nat) (last:Bool) (w:World) (ts:List (List UInt8)) (hW:WrI w0 w p ts) (hPE:∀u,Upto [] w0 u→PEnv u∧SEnv u)
  (hx0:w0.cell? ⟨g,o,none⟩=some (.int .i64 xo)) (hx1:w0.cell? ⟨g,o+1,none⟩=some (.slice xn1 xn2 xn3)) (hx2:w0.cell? ⟨g,o+2,none⟩=some (.int .i64 xs)) (hx3:w0.cell? ⟨g,o+3,none⟩=some (.int .i64 xm)) (hx4:w0.cell? ⟨g,o+4,none⟩=some (.int .i64 xq)) (hx5:w0.cell? ⟨g,o+5,none⟩=some (.slice xl1 xl2 xl3))
  (hy0:w0.cell? ⟨g,o+6,none⟩=some (.int .i64 yo)) (hy1:w0.cell? ⟨g,o+6+1,none⟩=some (.slice yn1 yn2 yn3)) (hy2:w0.cell? ⟨g,o+6+2,none⟩=some (.int .i64 ys)) (hy3:w0.cell? ⟨g,o+6+3,none⟩=some (.int .i64 ym)) (hy4:w0.cell? ⟨g,o+6+4,none⟩=some (.int .i64 yq)) (hy5:w0.cell? ⟨g,o+6+5,none⟩=some (.slice yl1 yl2 yl3))
  (hNx:NodeP w0 p x (.agg #[.int .i64 xo,.slice xn1 xn2 xn3,.int .i64 xs,.int .i64 xm,.int .i64 xq,.slice xl1 xl2 xl3])) (hNy:NodeP w0 p y (.agg #[.int .i64 yo,.slice yn1 yn2 yn3,.int .i64 ys,.int .i64 ym,.int .i64 yq,.slice yl1 yl2 yl3])) (hxo:0≤xo∧xo≤17) (hyo:0≤yo∧yo≤17)
  (hlen:ts.length+(parT (parB 14 0 xo false) (prT true x) (prT false x)).length+1+(parT (parB 14 1 yo last) (prT true y) (prT last y)).length≤1000000000000) :
  Calls Tryz.prog 71 #[.pointer (some ⟨p,0,none⟩),.agg #[.int .i64 14,.slice a1 nl c1,.int .i64 so,.int .i64 nn,.int .i64 mm,.slice (some ⟨g,o,none⟩) 2 c2],.bool last] w fun e w'=>e=.returned (.tuple #[])∧WrI w0 w' p (ts++txs (parT (parB 14 0 xo false) (prT true x) (prT false x))++[conW 14]++txs (parT (parB 14 1 yo last) (prT true y) (prT last y)))∧WrK w w' p:=by
 have u1:Upto [] w (w.alloc (.cells #[.pointer (some ⟨p,0,none⟩)] 99)):=(Upto.refl [] w).alloc _
 have u2:Upto [] (w.alloc (.cells #[.pointer (some ⟨p,0,none⟩)] 99)) ((w.alloc (.cells #[.pointer (some ⟨p,0,none⟩)] 99)).alloc (.cells #[.int .i64 14,.slice a1 nl c1,.int .i64 so,.int .i64 nn,.int .i64 mm,.slice (some ⟨g,o,none⟩) 2 c2] 34)):=(Upto.refl [] _).alloc _
 have u3:Upto [] ((w.alloc (.cells #[.pointer (some ⟨p,0,none⟩)] 99)).alloc (.cells #[.int .i64 14,.slice a1 nl c1,.int .i64 so,.int .i64 nn,.int .i64 mm,.slice (some ⟨g,o,none⟩) 2 c2] 34)) (((w.alloc (.cells #[.pointer (some ⟨p,0,none⟩)] 99)).alloc (.cells #[.int .i64 14,.slice a1 nl c1,.int .i64 so,.int .i64 nn,.int .i64 mm,.slice (some ⟨g,o,none⟩) 2 c2] 34)).alloc (.cells #[.bool last] 4)):=(Upto.refl [] _).alloc _
 have hw1:=hW.ext u1
 have hw2:=hw1.ext u2
 have HW3:=Lib.hid (hw2.ext u3)
 have K3:=Lib.hid ((hw2.keep u3).2 _ _ ((hw1.keep u2).2 _ _ (hW.fresh #[.pointer (some ⟨p,0,none⟩)] 99)))
 have K4:=Lib.hid ((hw2.keep u3).2 _ _ (hw1.fresh #[.int .i64 14,.slice a1 nl c1,.int .i64 so,.int .i64 nn,.int .i64 mm,.slice (some ⟨g,o,none⟩) 2 c2] 34))
 have K5:=Lib.hid (hw2.fresh #[.bool last] 4)
 have HK3:=Lib.hid (((hW.keep u1).trans (hw1.keep u2)).trans (hw2.keep u3))
 have z1:(w.alloc (.cells #[.pointer (some ⟨p,0,none⟩)] 99)).heap.size=w.heap.size+1:=by simp
 have z2:((w.alloc (.cells #[.pointer (some ⟨p,0,none⟩)] 99)).alloc (.cells #[.int .i64 14,.slice a1 nl c1,.int .i64 so,.int .i64 nn,.int .i64 mm,.slice (some ⟨g,o,none⟩) 2 c2] 34)).heap.size=w.heap.size+1+1:=by simp
 rw [z1] at K4
 rw [z2] at K5
 clear u1 u2 u3 hw1 hw2 z1 z2
 have HTW:=Lib.hid (fun u (hu:WrI w0 u p ts) (k3:Kp u p w.heap.size (.cells #[.pointer (some ⟨p,0,none⟩)] 99 (0,0))) (k4:Kp u p (w.heap.size+1) (.cells #[.int .i64 14,.slice a1 nl c1,.int .i64 so,.int .i64 nn,.int .i64 mm,.slice (some ⟨g,o,none⟩) 2 c2] 34 (0,0))) (k5:Kp u p (w.heap.size+1+1) (.cells #[.bool last] 4 (0,0))) =>
  two_calls w0 u p ts 14 so nn mm a1 nl c1 x y g o c2 xo xn1 xn2 xn3 xs xm xq xl1 xl2 xl3 yo yn1 yn2 yn3 ys ym yq yl1 yl2 yl3 last w.heap.size (w.heap.size+1) (w.heap.size+1+1) 3 2 (conW 14) hu k3 k4 k5 hx0 hx1 hx2 hx3 hx4 hx5 hy0 hy1 hy2 hy3 hy4 hy5 hNx hNy hxo hyo (fun u hu=>(hPE u hu).1) (by decide) rfl _ _ (par_str (op:=14) (place:=0) hxo.1 hxo.2 (by decide) (by decide) (by decide) false).symm (par_str (op:=14) (place:=1) hyo.1 hyo.2 (by decide) (by decide) (by decide) last).symm hlen)
 have HST:=Lib.hid (fun u (hu:Upto [] w0 u)=>kTq 14 so nn mm a1 nl c1 (some ⟨g,o,none⟩) 2 c2 u (hPE u hu).1 (by decide) (by decide))
 have HSV:Hid (strI 14=2):=Lib.hid rfl
 rw [HSV.out] at HST
 have HBD:=Lib.hid (fun u=>by
  have h:=kUq 14 so nn mm a1 nl c1 (some ⟨g,o,none⟩) 2 c2 u (by decide)
  rwa [show decide ((15:Int)<14)=false from rfl] at h)
 clear hW hPE hlen hNx hNy hx0 hx1 hx2 hx3 hx4 hx5 hy0 hy1 hy2 hy3 hy4 hy5 hxo hyo
 go_enter Tryz.func71,Tryz.ntmps71
 go_wp2_with fail
 refine (HST.out _ HW3.out.up).mono ?_
 rintro e w5 ⟨rfl,hu5⟩
 have HW5:=Lib.hid (HW3.out.ext hu5)
 have HX:=Lib.hid (HW3.out.keep hu5)
 have HK5:=Lib.hid (HK3.out.trans HX.out)
 have K35:=Lib.hid (HX.out.2 _ _ K3.out)
 have K45:=Lib.hid (HX.out.2 _ _ K4.out)
 have K55:=Lib.hid (HX.out.2 _ _ K5.out)
 clear hu5
 have h4:=K45.out.1
 obtain⟨y0,y1,y2,y3,y4,y5⟩:=kAx h4
 clear h4
 go_wp2_with fail
 refine (HBD.out _).mono ?_
 rintro e w6 ⟨rfl,hu6⟩
 have HW6:=Lib.hid (HW5.out.ext hu6)
 have HX6:=Lib.hid (HW5.out.keep hu6)
 have HK6:=Lib.hid (HK5.out.trans HX6.out)
 have K36:=Lib.hid (HX6.out.2 _ _ K35.out)
 have K46:=Lib.hid (HX6.out.2 _ _ K45.out)
 have K56:=Lib.hid (HX6.out.2 _ _ K55.out)
 have h4:=K46.out.1
 obtain⟨z0,z1,z2,z3,z4,z5⟩:=kAx h4
 clear hu6 h4 y0 y1 y2 y3 y4 y5
 go_wp2_with fail
 refine (HTW.out _ HW6.out K36.out K46.out K56.out).mono ?_
 rintro e w7 ⟨rfl,hw7,hk7⟩
 have HW7:=Lib.hid hw7
 have HK7:=Lib.hid (HK6.out.trans hk7)
 clear hw7 hk7
 go_wp2_with fail
 exact bodyPost_end (v:=.tuple #[]) (by simp [results,Tryz.results71,go_sem]) rfl ⟨rfl,HW7.out,HK7.out⟩
theorem node_b15 (w0:World) (p:Nat) (so nn mm:Int) (a1:Option Addr) (nl c1:Nat) (x y:Nd) (g o c2:Nat) (xo:Int) (xn1:Option Addr) (xn2 xn3:Nat) (xs xm xq:Int) (xl1:Option Addr) (xl2 xl3:Nat) (yo:Int) (yn1:Option Addr) (yn2 yn3:Nat) (ys ym yq:Int) (yl1:Option Addr) (yl2 yl3:Nat) (last:Bool) (w:World) (ts:List (List UInt8)) (hW:WrI w0 w p ts) (hPE:∀u,Upto [] w0 u→PEnv u∧SEnv u)
  (hx0:w0.cell? ⟨g,o,none⟩=some (.int .i64 xo)) (hx1:w0.cell? ⟨g,o+1,none⟩=some (.slice xn1 xn2 xn3)) (hx2:w0.cell? ⟨g,o+2,none⟩=some (.int .i64 xs)) (hx3:w0.cell? ⟨g,o+3,none⟩=some (.int .i64 xm)) (hx4:w0.cell? ⟨g,o+4,none⟩=some (.int .i64 xq)) (hx5:w0.cell? ⟨g,o+5,none⟩=some (.slice xl1 xl2 xl3))
  (hy0:w0.cell? ⟨g,o+6,none⟩=some (.int .i64 yo)) (hy1:w0.cell? ⟨g,o+6+1,none⟩=some (.slice yn1 yn2 yn3)) (hy2:w0.cell? ⟨g,o+6+2,none⟩=some (.int .i64 ys)) (hy3:w0.cell? ⟨g,o+6+3,none⟩=some (.int .i64 ym)) (hy4:w0.cell? ⟨g,o+6+4,none⟩=some (.int .i64 yq)) (hy5:w0.cell? ⟨g,o+6+5,none⟩=some (.slice yl1 yl2 yl3))
  (hNx:NodeP w0 p x (.agg #[.int .i64 xo,.slice xn1 xn2 xn3,.int .i64 xs,.int .i64 xm,.int .i64 xq,.slice xl1 xl2 xl3])) (hNy:NodeP w0 p y (.agg #[.int .i64 yo,.slice yn1 yn2 yn3,.int .i64 ys,.int .i64 ym,.int .i64 yq,.slice yl1 yl2 yl3])) (hxo:0≤xo∧xo≤17) (hyo:0≤yo∧yo≤17)
  (hlen:ts.length+(parT (parB 15 0 xo false) (prT true x) (prT false x)).length+1+(parT (parB 15 1 yo last) (prT true y) (prT last y)).length≤1000000000000) :
  Calls Tryz.prog 71 #[.pointer (some ⟨p,0,none⟩),.agg #[.int .i64 15,.slice a1 nl c1,.int .i64 so,.int .i64 nn,.int .i64 mm,.slice (some ⟨g,o,none⟩) 2 c2],.bool last] w fun e w'=>e=.returned (.tuple #[])∧WrI w0 w' p (ts++txs (parT (parB 15 0 xo false) (prT true x) (prT false x))++[conW 15]++txs (parT (parB 15 1 yo last) (prT true y) (prT last y)))∧WrK w w' p:=by
 have u1:Upto [] w (w.alloc (.cells #[.pointer (some ⟨p,0,none⟩)] 99)):=(Upto.refl [] w).alloc _
 have u2:Upto [] (w.alloc (.cells #[.pointer (some ⟨p,0,none⟩)] 99)) ((w.alloc (.cells #[.pointer (some ⟨p,0,none⟩)] 99)).alloc (.cells #[.int .i64 15,.slice a1 nl c1,.int .i64 so,.int .i64 nn,.int .i64 mm,.slice (some ⟨g,o,none⟩) 2 c2] 34)):=(Upto.refl [] _).alloc _
 have u3:Upto [] ((w.alloc (.cells #[.pointer (some ⟨p,0,none⟩)] 99)).alloc (.cells #[.int .i64 15,.slice a1 nl c1,.int .i64 so,.int .i64 nn,.int .i64 mm,.slice (some ⟨g,o,none⟩) 2 c2] 34)) (((w.alloc (.cells #[.pointer (some ⟨p,0,none⟩)] 99)).alloc (.cells #[.int .i64 15,.slice a1 nl c1,.int .i64 so,.int .i64 nn,.int .i64 mm,.slice (some ⟨g,o,none⟩) 2 c2] 34)).alloc (.cells #[.bool last] 4)):=(Upto.refl [] _).alloc _
 have hw1:=hW.ext u1
 have hw2:=hw1.ext u2
 have HW3:=Lib.hid (hw2.ext u3)
 have K3:=Lib.hid ((hw2.keep u3).2 _ _ ((hw1.keep u2).2 _ _ (hW.fresh #[.pointer (some ⟨p,0,none⟩)] 99)))
 have K4:=Lib.hid ((hw2.keep u3).2 _ _ (hw1.fresh #[.int .i64 15,.slice a1 nl c1,.int .i64 so,.int .i64 nn,.int .i64 mm,.slice (some ⟨g,o,none⟩) 2 c2] 34))
 have K5:=Lib.hid (hw2.fresh #[.bool last] 4)
 have HK3:=Lib.hid (((hW.keep u1).trans (hw1.keep u2)).trans (hw2.keep u3))
 have z1:(w.alloc (.cells #[.pointer (some ⟨p,0,none⟩)] 99)).heap.size=w.heap.size+1:=by simp
 have z2:((w.alloc (.cells #[.pointer (some ⟨p,0,none⟩)] 99)).alloc (.cells #[.int .i64 15,.slice a1 nl c1,.int .i64 so,.int .i64 nn,.int .i64 mm,.slice (some ⟨g,o,none⟩) 2 c2] 34)).heap.size=w.heap.size+1+1:=by simp
 rw [z1] at K4
 rw [z2] at K5
 clear u1 u2 u3 hw1 hw2 z1 z2
 have HTW:=Lib.hid (fun u (hu:WrI w0 u p ts) (k3:Kp u p w.heap.size (.cells #[.pointer (some ⟨p,0,none⟩)] 99 (0,0))) (k4:Kp u p (w.heap.size+1) (.cells #[.int .i64 15,.slice a1 nl c1,.int .i64 so,.int .i64 nn,.int .i64 mm,.slice (some ⟨g,o,none⟩) 2 c2] 34 (0,0))) (k5:Kp u p (w.heap.size+1+1) (.cells #[.bool last] 4 (0,0))) =>
  two_calls w0 u p ts 15 so nn mm a1 nl c1 x y g o c2 xo xn1 xn2 xn3 xs xm xq xl1 xl2 xl3 yo yn1 yn2 yn3 ys ym yq yl1 yl2 yl3 last w.heap.size (w.heap.size+1) (w.heap.size+1+1) 1 2 (conW 15) hu k3 k4 k5 hx0 hx1 hx2 hx3 hx4 hx5 hy0 hy1 hy2 hy3 hy4 hy5 hNx hNy hxo hyo (fun u hu=>(hPE u hu).1) (by decide) rfl _ _ (par_str (op:=15) (place:=0) hxo.1 hxo.2 (by decide) (by decide) (by decide) false).symm (par_str (op:=15) (place:=1) hyo.1 hyo.2 (by decide) (by decide) (by decide) last).symm hlen)
 have HST:=Lib.hid (fun u (hu:Upto [] w0 u)=>kTq 15 so nn mm a1 nl c1 (some ⟨g,o,none⟩) 2 c2 u (hPE u hu).1 (by decide) (by decide))
 have HSV:Hid (strI 15=1):=Lib.hid rfl
 rw [HSV.out] at HST
 have HBD:=Lib.hid (fun u=>by
  have h:=kUq 15 so nn mm a1 nl c1 (some ⟨g,o,none⟩) 2 c2 u (by decide)
  rwa [show decide ((15:Int)<15)=false from rfl] at h)
 clear hW hPE hlen hNx hNy hx0 hx1 hx2 hx3 hx4 hx5 hy0 hy1 hy2 hy3 hy4 hy5 hxo hyo
 go_enter Tryz.func71,Tryz.ntmps71
 go_wp2_with fail
 refine (HST.out _ HW3.out.up).mono ?_
 rintro e w5 ⟨rfl,hu5⟩
 have HW5:=Lib.hid (HW3.out.ext hu5)
 have HX:=Lib.hid (HW3.out.keep hu5)
 have HK5:=Lib.hid (HK3.out.trans HX.out)
 have K35:=Lib.hid (HX.out.2 _ _ K3.out)
 have K45:=Lib.hid (HX.out.2 _ _ K4.out)
 have K55:=Lib.hid (HX.out.2 _ _ K5.out)
 clear hu5
 have h4:=K45.out.1
 obtain⟨y0,y1,y2,y3,y4,y5⟩:=kAx h4
 clear h4
 go_wp2_with fail
 refine (HBD.out _).mono ?_
 rintro e w6 ⟨rfl,hu6⟩
 have HW6:=Lib.hid (HW5.out.ext hu6)
 have HX6:=Lib.hid (HW5.out.keep hu6)
 have HK6:=Lib.hid (HK5.out.trans HX6.out)
 have K36:=Lib.hid (HX6.out.2 _ _ K35.out)
 have K46:=Lib.hid (HX6.out.2 _ _ K45.out)
 have K56:=Lib.hid (HX6.out.2 _ _ K55.out)
 have h4:=K46.out.1
 obtain⟨z0,z1,z2,z3,z4,z5⟩:=kAx h4
 clear hu6 h4 y0 y1 y2 y3 y4 y5
 go_wp2_with fail
 refine (HTW.out _ HW6.out K36.out K46.out K56.out).mono ?_
 rintro e w7 ⟨rfl,hw7,hk7⟩
 have HW7:=Lib.hid hw7
 have HK7:=Lib.hid (HK6.out.trans hk7)
 clear hw7 hk7
 go_wp2_with fail
 exact bodyPost_end (v:=.tuple #[]) (by simp [results,Tryz.results71,go_sem]) rfl ⟨rfl,HW7.out,HK7.out⟩
theorem sort_wd {s:Int} (h0:0≤s) (h1:s<4):kDj.getD s.toNat []=kOj s:=by
 have:s=0∨s=1∨s=2∨s=3:=by omega
 rcases this with rfl | rfl | rfl | rfl<;>rfl
theorem node_calls:∀(k:Nat) (nd:Nd),kCz nd≤k→okF nd→∀(w0:World) (p:Nat) (P:Nat→Prop) (v:Value),(∀u,Upto [] w0 u→PEnv u∧SEnv u)→AtomP w0 P→NdV w0 P nd v→NodeP w0 p nd v
 | 0,nd,hk,_,_,_,_,_,_,_,_=>by have:=kJx nd;omega
 | k+1,.mk op names so n m l,hk,hok,w0,p,P,v,hPE,hat,h=>by
  intro last w ts hW hlen
  have hop:=ok_op hok
  have h':=h
  obtain⟨a1,c1,a2,c2,rfl,hs,hls⟩:=h.open
  by_cases hA:op<11
  ·rw [prT_atom last hA] at hlen ⊢
   exact node_atom w0 p op so n m a1 names.length c1 a2 l.length c2 (txs (kIk op names n m)) last w ts hW (fun u hu=>(hPE u hu).1) hop.1 hA (fun u hu=>hat op so n m names l _ hok hA h' u hu) (by rw [txs_len];exact hlen)
  have hok2:=hok
  unfold okF at hok2
  obtain⟨-,hc,hos⟩:=hok2
  simp only [kCz] at hk
  rcases hc with⟨h1,-⟩ | ⟨h1,h2,-⟩ | ⟨h1,-⟩ | ⟨h1,-⟩ | ⟨h1,-⟩ | ⟨h1,-⟩ | ⟨rfl,-,h3,-⟩ | ⟨h1,h2,-,h3,-⟩ | ⟨h1,h2,h3,h4,h5,h6,-⟩
  ·omega
  ·omega
  ·omega
  ·omega
  ·omega
  ·omega
  ·obtain⟨x,rfl⟩:=List.length_eq_one_iff.1 h3
   obtain⟨g,o,xo,xn1,xn2,xn3,xs,xm,xq,xl1,xl2,xl3,rfl,e0,e1,e2,e3,e4,e5,hx⟩:=ls_one hls
   unfold oksF at hos
   have hxo:=nd_op hx
   have hxr:=ok_opF hos.1
   rw [hxo] at hxr
   simp only [kBk] at hk
   rw [prT_not,hxo] at hlen ⊢
   simp only [List.length_cons] at hlen
   have hf:=node_not w0 p so n m a1 names.length c1 x g o c2 xo xn1 xn2 xn3 xs xm xq xl1 xl2 xl3 last w ts hW hPE e0 e1 e2 e3 e4 e5 (node_calls k x (by omega) hos.1 w0 p P _ hPE hat hx) hxr _ (par_str (op:=11) (place:=0) hxr.1 hxr.2 (by decide) (by decide) (by decide) last).symm (by omega)
   rw [txs_cons]
   refine hf.mono ?_
   rintro e w' ⟨he,hw,hk'⟩
   exact⟨he,by simpa [kyT] using hw,hk'⟩
  ·obtain⟨x,y,rfl⟩:∃x y,l=[x,y]:=by
    match l,h3 with
    | [x,y],_=>exact⟨x,y,rfl⟩
   have hls':=hls
   obtain⟨g,o,xo,xn1,xn2,xn3,xs,xm,xq,xl1,xl2,xl3,rfl,e0,e1,e2,e3,e4,e5,hx⟩:=ls_one hls
   obtain⟨g',o',yo,yn1,yn2,yn3,ys,ym,yq,yl1,yl2,yl3,eg,d0,d1,d2,d3,d4,d5,hy⟩:=hls' 1 y rfl
   simp only [Option.some.injEq,Addr.mk.injEq,and_true] at eg
   obtain⟨rfl,rfl⟩:=eg
   simp only [Nat.one_mul] at d0 d1 d2 d3 d4 d5
   unfold oksF oksF at hos
   have hxo:=nd_op hx
   have hxr:=ok_opF hos.1
   rw [hxo] at hxr
   have hyo:=nd_op hy
   have hyr:=ok_opF hos.2.1
   rw [hyo] at hyr
   simp only [kBk] at hk
   rw [prT_bin last h1 h2,hxo,hyo] at hlen ⊢
   simp only [List.length_append,List.length_cons] at hlen
   have hNx:=node_calls k x (by omega) hos.1 w0 p P _ hPE hat hx
   have hNy:=node_calls k y (by omega) hos.2.1 w0 p P _ hPE hat hy
   have h4:op=12∨op=13∨op=14∨op=15:=by omega
   rw [txs_app,txs_cons]
   rcases h4 with rfl | rfl | rfl | rfl
   ·refine (node_b12 w0 p so n m a1 names.length c1 x y g o c2 xo xn1 xn2 xn3 xs xm xq xl1 xl2 xl3 yo yn1 yn2 yn3 ys ym yq yl1 yl2 yl3 last w ts hW hPE e0 e1 e2 e3 e4 e5 d0 d1 d2 d3 d4 d5 hNx hNy hxr hyr (by omega)).mono ?_
    rintro e w' ⟨he,hw,hk'⟩
    exact⟨he,by simpa [kyT] using hw,hk'⟩
   ·refine (node_b13 w0 p so n m a1 names.length c1 x y g o c2 xo xn1 xn2 xn3 xs xm xq xl1 xl2 xl3 yo yn1 yn2 yn3 ys ym yq yl1 yl2 yl3 last w ts hW hPE e0 e1 e2 e3 e4 e5 d0 d1 d2 d3 d4 d5 hNx hNy hxr hyr (by omega)).mono ?_
    rintro e w' ⟨he,hw,hk'⟩
    exact⟨he,by simpa [kyT] using hw,hk'⟩
   ·refine (node_b14 w0 p so n m a1 names.length c1 x y g o c2 xo xn1 xn2 xn3 xs xm xq xl1 xl2 xl3 yo yn1 yn2 yn3 ys ym yq yl1 yl2 yl3 last w ts hW hPE e0 e1 e2 e3 e4 e5 d0 d1 d2 d3 d4 d5 hNx hNy hxr hyr (by omega)).mono ?_
    rintro e w' ⟨he,hw,hk'⟩
    exact⟨he,by simpa [kyT] using hw,hk'⟩
   ·refine (node_b15 w0 p so n m a1 names.length c1 x y g o c2 xo xn1 xn2 xn3 xs xm xq xl1 xl2 xl3 yo yn1 yn2 yn3 ys ym yq yl1 yl2 yl3 last w ts hW hPE e0 e1 e2 e3 e4 e5 d0 d1 d2 d3 d4 d5 hNx hNy hxr hyr (by omega)).mono ?_
    rintro e w' ⟨he,hw,hk'⟩
    exact⟨he,by simpa [kyT] using hw,hk'⟩
  ·obtain⟨x,rfl⟩:=List.length_eq_one_iff.1 h4
   obtain⟨nm,rfl⟩:=List.length_eq_one_iff.1 h3
   obtain⟨q,rfl⟩:=kUj hop.1
   obtain⟨g,o,xo,xn1,xn2,xn3,xs,xm,xq,xl1,xl2,xl3,rfl,e0,e1,e2,e3,e4,e5,hx⟩:=ls_one hls
   unfold oksF at hos
   simp only [kBk] at hk
   rw [prT_qu last h1] at hlen ⊢
   simp only [List.length_cons] at hlen
   have hnm:∃gn og,a1=some ⟨gn,og,none⟩∧w0.cell? ⟨gn,og,none⟩=some (.string ⟨nm.toArray⟩):=by
    obtain⟨a',c',ev,hg⟩:=hs.get
    obtain⟨rfl,rfl⟩:a1=a'∧c1=c':=by simpa using ev
    obtain⟨gn,og,r1,r2⟩:=hg 0 (sV nm) rfl
    exact⟨gn,og,r1,r2⟩
   have hf:=node_qu w0 p q so n m a1 c1 x g o c2 xo xn1 xn2 xn3 xs xm xq xl1 xl2 xl3 last nm w ts hW hPE e0 e1 e2 e3 e4 e5 (node_calls k x (by omega) hos.1 w0 p P _ hPE hat hx) (by omega) (by omega) hnm (by omega)
   simp only [txs_cons]
   refine hf.mono ?_
   rintro e w' ⟨he,hw,hk'⟩
   rw [←sort_wd h5 h6] at hw
   exact⟨he,by simpa [kyT,idT,puT] using hw,hk'⟩
end Go.Proofs.YtkhbpebpljdifaaGreatDoor
