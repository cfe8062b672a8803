/- PrinterLimits: printed forms longer than 65536 bytes are rejected, others are returned and parsed back, and formulas of the maximum depth round-trip Conditions: the row of its statement (tables and errors of the standard library read as their texts lay them). -/
import Derived.Test.YtkhbpebpljdifaaGreatDoorMProH
import Derived.Deep.DeepWitnessRowRef
namespace Go.Proofs.YtkhbpebpljdifaaGreatDoor
open Go.ChangeShapes Go.WideShapes Go.ChangeAt Go.RowKit Go.PL Go.Deep
open Go.ChangeMaps (open_string)

/-- A world for the witness: the settled one, the tables holding what their initialisers lay. -/
noncomputable def printerLimits_laidWorld (os:Os):World:=World.laidAll Tryz.prog os Rows.printerLimitsRow.laid
theorem printerLimits_laidWorld_os (os:Os):(printerLimits_laidWorld os).os=os:=World.laidAll_os _ _ _
theorem printerLimits_laid_met (os:Os) (args:Array Value):laidMet Tryz.prog Rows.printerLimitsRow.laid ((printerLimits_laidWorld os).forCall (fun _ _=>0) ⟨#[],args,[]⟩).memory :=
 laidMet_laidAll args (by kernel_rfl) (by kernel_rfl)

set_option maxRecDepth 100000 in
theorem printerLimits_contract (H:Type) (enc:TypeId×Value→H) (W:World) (base:Nat) (args:Array Value) (ds gs:List (DataW H)) (before:List MemPlace)
  (hval:∀(j:Nat) t v,Tryz.f12.params[j]?=some t→args[j]?=some v→Value.okWide Tryz.prog W .any base t v)
  (hW:DataW.Whole enc Tryz.prog Tryz.f12.params.toList Rows.printerLimitsSpec.vars false W args.toList ds gs before) (hL:laidMetH Tryz.prog Rows.printerLimitsRow.laid W) :
  Calls Tryz.prog 12 args W fun e W'=>∃v,e=.returned v∧Rows.printerLimitsSpec.post enc Tryz.prog Tryz.f12 false true false false W args v W':=by
 rw [MakeChecks.laidMetH_plain _ _ _ (by kernel_rfl)] at hL
 have hE:=(⟨env_of hL (by kernel_rfl) (by kernel_rfl),senv_of hL (by kernel_rfl),fenv_of hL (by kernel_rfl),penv_of hL (by kernel_rfl) (by kernel_rfl)⟩:Env W∧SEnv W∧FEnv W∧PEnv W)
 have hW':=hW
 obtain⟨p,q,hA0,hV,rfl,hfz,hnd⟩:=hW
 have hA:DataW.TrodAll enc Tryz.prog W 0 (fun _=>true) true Tryz.f12.params.toList args.toList ds p:=hA0
 rw [Tryz.params12] at hA hval
 obtain⟨v0,vs0,d0,ds0,p0,q0,hargs,rfl,rfl,h0,r0⟩:=trodAll_cons hA
 obtain⟨v1,vs1,d1,ds1,p1,q1,rfl,rfl,rfl,h1,r1⟩:=trodAll_cons r0
 obtain⟨rfl,rfl,rfl⟩:=trodAll_nil r1
 obtain rfl:args=#[v0,v1]:=by cases args;simp_all
 have walk:Calls Tryz.prog 12 #[v0,v1] W fun e w'=>e=.returned (.bool true)∧Upto [] W w':=by
  obtain⟨z0,rfl,-,-,w0⟩:=open_int Tryz.underlying5 (hval 0 5 v0 rfl rfl) h0
  obtain⟨z1,rfl,-,-,w1⟩:=open_int Tryz.underlying5 (hval 1 5 v1 rfl rfl) h1
  exact printerLimits_walk z0 z1 W (by simpa [Lit.wf,IntKind.min,IntKind.max,IntKind.signed,IntKind.bits] using w0) (by simpa [Lit.wf,IntKind.min,IntKind.max,IntKind.signed,IntKind.bits] using w1) hE
 exact walk.mono fun e W' ⟨he,hu⟩=>⟨_,he,post_true (hv:=rfl) (by kernel_rfl) (by kernel_rfl) (by kernel_rfl) hW' (fun _=>rfl) hu⟩

set_option maxRecDepth 100000 in
theorem printerLimits_reads (os:Os) {H:Type} (enc:TypeId×Value→H):∃places,DataW.whole enc Tryz.prog ((printerLimits_laidWorld os).forCall (fun _ _=>0) ⟨#[],#[.int .u8 0,.int .u8 0],[]⟩).memory Tryz.f12.params.toList Rows.printerLimitsSpec.vars false #[.int .u8 0,.int .u8 0].toList 8=some ([.lit (.int .u8 0),.lit (.int .u8 0)],[],places) :=
 ⟨[],by kernel_rfl⟩
set_option maxRecDepth 100000 in
theorem printerLimits_lifted (os:Os) (started:os.Started) (H:Type) (enc:TypeId×Value→H) (F:Stop.Interp) :
  ReturnsInHanded {} Tryz.checked os 12 .any ((OpenSpec.ofChange Rows.printerLimitsSpec).preRow enc Tryz.prog Tryz.f12 Rows.printerLimitsRow.domain false Rows.printerLimitsRow.laid) (((OpenSpec.ofChange Rows.printerLimitsSpec).at F).post enc Tryz.prog Tryz.f12 false true false false):=by
 obtain⟨places,hx⟩:=printerLimits_reads os enc
 refine returnsInHanded_of_row (C:=Tryz.checked) (s:=(OpenSpec.ofChange Rows.printerLimitsSpec)) own started (by kernel_rfl) Tryz.func12
  (witness_row_atRef (enc:=enc) (C:=Tryz.checked) false (printerLimits_laidWorld os) #[.int .u8 0,.int .u8 0] (printerLimits_laidWorld_os os) (by kernel_rfl) (by kernel_rfl) (by kernel_rfl)
   (OpenSpec.preRow_of_cond 8 hx (by kernel_rfl) (fun k hk=>by cases hk) (by kernel_rfl) (printerLimits_laid_met os _))) ?_
 intro W base args ds gs before hval hW _ hcond _ hL _ _
 exact printerLimits_contract H enc W base args ds gs before hval hW hL

theorem printerLimits_and {a b:Bool} (h:a=true) (k:b=true):(a&&b)=true:=by rw [h,k];rfl
theorem printerLimits_k0:(Rows.printerLimitsRow.wf (OpenSpec.ofChange (OpenSpec.ofChange Rows.printerLimitsSpec).bare))=true:=by kernel_rfl
theorem printerLimits_k1:(laidOutB Tryz.pinned.checked.prog)=true:=by kernel_rfl
theorem printerLimits_k2:(mapsRowed Tryz.pinned.checked.prog)=true:=by kernel_rfl
theorem printerLimits_k3:(Tryz.f12.params.all (Tryz.pinned.checked.prog.readableRec ·))=true:=by kernel_rfl
theorem printerLimits_k4:(namedTie Tryz.pinned.checked.prog Rows.printerLimitsRow.named (OpenSpec.ofChange Rows.printerLimitsSpec).bare.vars)=true:=by kernel_rfl
theorem printerLimits_k5:(Rows.printerLimitsRow.stops==[])=true:=by kernel_rfl
theorem printerLimits_k6:(Tryz.pinned.checked.prog.stops==[])=true:=by kernel_rfl
theorem printerLimits_k7:(Rows.printerLimitsRow.knobs==[])=true:=by kernel_rfl
theorem printerLimits_k8:(Tryz.pinned.checked.prog.stopKnobs==[])=true:=by kernel_rfl
theorem printerLimits_k9:(Rows.printerLimitsRow.inPlace==Tryz.pinned.checked.prog.inPlace 12)=true:=by kernel_rfl
theorem printerLimits_k10:(Rows.printerLimitsRow.unfollowed==Tryz.pinned.checked.prog.unfollowed 12)=true:=by kernel_rfl
theorem printerLimits_k11:(Rows.printerLimitsRow.recurses==Tryz.pinned.checked.prog.recurses 12)=true:=by kernel_rfl
theorem printerLimits_k12:(Rows.printerLimitsRow.named==Tryz.pinned.checked.prog.varsNamed 12)=true:=by kernel_rfl
theorem printerLimits_k13:(Rows.printerLimitsRow.maps==(Tryz.f12.params.toList++(OpenSpec.ofChange Rows.printerLimitsSpec).bare.plain.varTypes Tryz.pinned.checked.prog).any (Tryz.pinned.checked.prog.mapsRec ·))=true:=by kernel_rfl
theorem printerLimits_k14:(Rows.printerLimitsRow.ifaces==(Tryz.f12.params.toList++(OpenSpec.ofChange Rows.printerLimitsSpec).bare.plain.varTypes Tryz.pinned.checked.prog).any (Tryz.pinned.checked.prog.ifacesRec ·))=true:=by kernel_rfl
theorem printerLimits_k15:(Rows.printerLimitsRow.mapsOut==Tryz.pinned.checked.prog.mapsAmong Tryz.f12.resultTypes.toList)=true:=by kernel_rfl
theorem printerLimits_k16:(Rows.printerLimitsRow.loops==(Tryz.f12.params.toList++(OpenSpec.ofChange Rows.printerLimitsSpec).bare.plain.varTypes Tryz.pinned.checked.prog).any (Tryz.pinned.checked.prog.loopsFrom ·))=true:=by kernel_rfl
theorem printerLimits_k17:(Rows.printerLimitsRow.wideKeys==(Tryz.f12.params.toList++(OpenSpec.ofChange Rows.printerLimitsSpec).bare.plain.varTypes Tryz.pinned.checked.prog++Tryz.f12.resultTypes.toList).any (Tryz.pinned.checked.prog.wideKeysFrom ·))=true:=by kernel_rfl
theorem printerLimits_k18:((OpenSpec.ofChange Rows.printerLimitsSpec).bare.vars.all (Tryz.pinned.checked.prog.varReadable ·))=true:=by kernel_rfl
theorem printerLimits_k19:(Tryz.f12.resultTypes.all (fun t=>Tryz.pinned.checked.prog.readableRec t&&decide (t<Tryz.pinned.checked.prog.types.size)))=true:=by kernel_rfl
theorem printerLimits_k20:(Rows.printerLimitsRow.ifacesOut==Tryz.f12.resultTypes.toList.any (Tryz.pinned.checked.prog.ifacesRec ·))=true:=by kernel_rfl
theorem printerLimits_k21:(Rows.printerLimitsRow.loopsOut==Tryz.f12.resultTypes.toList.any (Tryz.pinned.checked.prog.loopsFrom ·))=true:=by kernel_rfl
theorem printerLimits_k22:(Rows.printerLimitsRow.plainKeys==Tryz.pinned.checked.prog.plainKeys)=true:=by kernel_rfl
theorem printerLimits_k23:(Rows.printerLimitsRow.shortTexts.isNone)=true:=by kernel_rfl
theorem printerLimits_k24:(Tryz.pinned.checked.prog.stopsHeard)=true:=by kernel_rfl
theorem printerLimits_k25:(Tryz.pinned.checked.prog.mayEnter)=true:=by kernel_rfl
theorem printerLimits_k26:(Rows.printerLimitsRow.lifted==Tryz.pinned.checked.prog.liftsFinal)=true:=by kernel_rfl
theorem printerLimits_k27:(Tryz.pinned.checked.prog.make==some Rows.printerLimitsRow.make)=true:=by kernel_rfl
theorem printerLimits_k28:(Rows.printerLimitsRow.kinds==(if Rows.printerLimitsRow.domain.isEmpty then [] else Tryz.f12.params.toList.map fun t=>match Tryz.pinned.checked.prog.underlying t with | some (.int k)=>some k | _=>none))=true:=by kernel_rfl
theorem printerLimits_k29:(Rows.printerLimitsRow.pinned==Rows.printerLimitsRow.pinnedBy)=true:=by kernel_rfl
theorem printerLimits_k30:(Rows.printerLimitsRow.veiled==(Tryz.f12.params.toList++(OpenSpec.ofChange Rows.printerLimitsSpec).bare.plain.varTypes Tryz.pinned.checked.prog++Tryz.f12.resultTypes.toList).any (Tryz.pinned.checked.prog.veiledRec ·))=true:=by kernel_rfl
theorem printerLimits_k31:(Rows.printerLimitsRow.veiledFits Tryz.pinned.checked.prog Tryz.f12.params.toList (Tryz.f12.params.toList++(OpenSpec.ofChange Rows.printerLimitsSpec).bare.plain.varTypes Tryz.pinned.checked.prog++Tryz.f12.resultTypes.toList))=true:=by kernel_rfl
set_option maxRecDepth 100000 in
theorem printerLimits_closed:joinedFacts Tryz.pinned.checked.prog 12 Tryz.f12 (OpenSpec.ofChange Rows.printerLimitsSpec).bare Rows.printerLimitsRow=true:=by
 unfold joinedFacts
 exact (printerLimits_and (printerLimits_and (printerLimits_and (printerLimits_and (printerLimits_and (printerLimits_and (printerLimits_and (printerLimits_and (printerLimits_and (printerLimits_and (printerLimits_and (printerLimits_and (printerLimits_and (printerLimits_and (printerLimits_and (printerLimits_and (printerLimits_and (printerLimits_and (printerLimits_and (printerLimits_and (printerLimits_and (printerLimits_and (printerLimits_and (printerLimits_and (printerLimits_and (printerLimits_and (printerLimits_and (printerLimits_and (printerLimits_and (printerLimits_and (printerLimits_and printerLimits_k0 printerLimits_k1) printerLimits_k2) printerLimits_k3) printerLimits_k4) printerLimits_k5) printerLimits_k6) printerLimits_k7) printerLimits_k8) printerLimits_k9) printerLimits_k10) printerLimits_k11) printerLimits_k12) printerLimits_k13) printerLimits_k14) printerLimits_k15) printerLimits_k16) printerLimits_k17) printerLimits_k18) printerLimits_k19) printerLimits_k20) printerLimits_k21) printerLimits_k22) printerLimits_k23) printerLimits_k24) printerLimits_k25) printerLimits_k26) printerLimits_k27) printerLimits_k28) printerLimits_k29) printerLimits_k30) printerLimits_k31)

theorem printerLimits_said:Rows.PrinterLimitsSaid :=
 OpenClaim.holds_of_cond 12 Tryz.f12 rfl rfl rfl rfl rfl rfl rfl ⟨rfl,rfl,rfl,rfl,rfl⟩ rfl rfl rfl rfl rfl (by kernel_rfl) Tryz.func12 printerLimits_closed
  (of_decide_eq_true (by kernel_rfl)) (by unfold Func.isWrapper;first | (rw [if_pos (by decide +kernel)];kernel_rfl) | (rw [if_neg (by decide +kernel)];exact⟨rfl,rfl⟩))
  (fun os started H enc _ F=>by rw [OpenClaim.pre_eq_preRow];exact printerLimits_lifted os started H enc F)
theorem printerLimits_plain (f:FuncId) (fn:Func) (hf:Tryz.pinned.checked.prog.funcNamed "palmette/palmettelaw11.PrinterLimits"=some f) (hfn:Tryz.pinned.checked.prog.funcs[f]?=some fn) :
  true=Tryz.pinned.checked.prog.looks []∧∀(j:Nat) t,fn.params[j]?=some t→Tryz.pinned.checked.prog.wantsStandIn t=false:=by
 obtain rfl:f=12:=Option.some.inj ((show Tryz.prog.funcNamed "palmette/palmettelaw11.PrinterLimits"=some 12 by kernel_rfl).symm.trans hf) |>.symm
 obtain rfl:fn=Tryz.f12:=(Option.some.inj (Tryz.func12.symm.trans hfn)).symm
 refine⟨by kernel_rfl,fun j t ht=>?_⟩
 rw [Tryz.params12] at ht
 have hm:t∈[5,5]:=by simpa using Array.mem_of_getElem? ht
 simp only [List.mem_cons,List.not_mem_nil,or_false] at hm
 rcases hm with rfl | rfl
 ·exact (show Tryz.prog.wantsStandIn 5=false by kernel_rfl)
 ·exact (show Tryz.prog.wantsStandIn 5=false by kernel_rfl)

/-- the law's card -/
theorem printerLimits:Rows.PrinterLimitsCardSaid :=
 Claim7.holds_tied_plain_at .later [] _ _ _ _ printerLimits_said (fun _ h=>by cases h) (by kernel_rfl) (fun _ h=>by cases h) printerLimits_row_tie rfl ⟨rfl,rfl⟩ (by kernel_rfl) rfl printerLimits_plain (by kernel_rfl)
end Go.Proofs.YtkhbpebpljdifaaGreatDoor
