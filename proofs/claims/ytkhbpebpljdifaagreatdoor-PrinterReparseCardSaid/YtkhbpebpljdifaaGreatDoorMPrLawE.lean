/- PrinterReparse: printing a parsed question and parsing it again yields the same question, and printing is idempotent. Conditions: the row of its statement (tables and errors of the standard library read as their texts lay them). -/
import Derived.Test.YtkhbpebpljdifaaGreatDoorMProE
import Derived.Deep.DeepWitnessRowRef
namespace Go.Proofs.YtkhbpebpljdifaaGreatDoor
open Go.ChangeShapes Go.WideShapes Go.ChangeAt Go.RowKit Go.PL Go.Deep
open Go.ChangeMaps (open_string)

/-- A world for the witness: the settled one, the tables holding what their initialisers lay. -/
noncomputable def printerReparse_laidWorld (os:Os):World:=World.laidAll Tryz.prog os Rows.printerReparseRow.laid
theorem printerReparse_laidWorld_os (os:Os):(printerReparse_laidWorld os).os=os:=World.laidAll_os _ _ _
theorem printerReparse_laid_met (os:Os) (args:Array Value):laidMet Tryz.prog Rows.printerReparseRow.laid ((printerReparse_laidWorld os).forCall (fun _ _=>0) ⟨#[],args,[]⟩).memory :=
 laidMet_laidAll args (by kernel_rfl) (by kernel_rfl)

set_option maxRecDepth 100000 in
theorem printerReparse_contract (H:Type) (enc:TypeId×Value→H) (W:World) (base:Nat) (args:Array Value) (ds gs:List (DataW H)) (before:List MemPlace)
  (hval:∀(j:Nat) t v,Tryz.f11.params[j]?=some t→args[j]?=some v→Value.okWide Tryz.prog W .any base t v)
  (hW:DataW.Whole enc Tryz.prog Tryz.f11.params.toList Rows.printerReparseSpec.vars false W args.toList ds gs before) (hL:laidMetH Tryz.prog Rows.printerReparseRow.laid W) :
  Calls Tryz.prog 11 args W fun e W'=>∃v,e=.returned v∧Rows.printerReparseSpec.post enc Tryz.prog Tryz.f11 false true false false W args v W':=by
 rw [MakeChecks.laidMetH_plain _ _ _ (by kernel_rfl)] at hL
 have hE:=(⟨env_of hL (by kernel_rfl) (by kernel_rfl),senv_of hL (by kernel_rfl),fenv_of hL (by kernel_rfl),penv_of hL (by kernel_rfl) (by kernel_rfl)⟩:Env W∧SEnv W∧FEnv W∧PEnv W)
 have hW':=hW
 obtain⟨p,q,hA0,hV,rfl,hfz,hnd⟩:=hW
 have hA:DataW.TrodAll enc Tryz.prog W 0 (fun _=>true) true Tryz.f11.params.toList args.toList ds p:=hA0
 rw [Tryz.params11] at hA hval
 obtain⟨v0,vs0,d0,ds0,p0,q0,hargs,rfl,rfl,h0,r0⟩:=trodAll_cons hA
 obtain⟨rfl,rfl,rfl⟩:=trodAll_nil r0
 obtain rfl:args=#[v0]:=by cases args;simp_all
 have walk:Calls Tryz.prog 11 #[v0] W fun e w'=>e=.returned (.bool true)∧Upto [] W w':=by
  obtain⟨s0,rfl,hb0,-,l0⟩:=open_string Tryz.underlying9 (hval 0 9 v0 rfl rfl) h0
  have x0:s0=⟨s0.data.toList.toArray⟩:=by cases s0;rfl
  rw [x0]
  exact printerReparse_walk s0.data.toList W (by have h:=l0;rw [x0] at h;exact h) hE
 exact walk.mono fun e W' ⟨he,hu⟩=>⟨_,he,post_true (hv:=rfl) (by kernel_rfl) (by kernel_rfl) (by kernel_rfl) hW' (fun _=>rfl) hu⟩

set_option maxRecDepth 100000 in
theorem printerReparse_reads (os:Os) {H:Type} (enc:TypeId×Value→H):∃places,DataW.whole enc Tryz.prog ((printerReparse_laidWorld os).forCall (fun _ _=>0) ⟨#[],#[.string ⟨#[]⟩],[]⟩).memory Tryz.f11.params.toList Rows.printerReparseSpec.vars false #[.string ⟨#[]⟩].toList 8=some ([.lit (.string [])],[],places) :=
 ⟨[],by kernel_rfl⟩
set_option maxRecDepth 100000 in
theorem printerReparse_lifted (os:Os) (started:os.Started) (H:Type) (enc:TypeId×Value→H) (F:Stop.Interp) :
  ReturnsInHanded {} Tryz.checked os 11 .any ((OpenSpec.ofChange Rows.printerReparseSpec).preRow enc Tryz.prog Tryz.f11 Rows.printerReparseRow.domain false Rows.printerReparseRow.laid) (((OpenSpec.ofChange Rows.printerReparseSpec).at F).post enc Tryz.prog Tryz.f11 false true false false):=by
 obtain⟨places,hx⟩:=printerReparse_reads os enc
 refine returnsInHanded_of_row (C:=Tryz.checked) (s:=(OpenSpec.ofChange Rows.printerReparseSpec)) own started (by kernel_rfl) Tryz.func11
  (witness_row_atRef (enc:=enc) (C:=Tryz.checked) false (printerReparse_laidWorld os) #[.string ⟨#[]⟩] (printerReparse_laidWorld_os os) (by kernel_rfl) (by kernel_rfl) (by kernel_rfl)
   (OpenSpec.preRow_of_cond 8 hx (by kernel_rfl) (fun k hk=>by cases hk) (by kernel_rfl) (printerReparse_laid_met os _))) ?_
 intro W base args ds gs before hval hW _ hcond _ hL _ _
 exact printerReparse_contract H enc W base args ds gs before hval hW hL

theorem printerReparse_and {a b:Bool} (h:a=true) (k:b=true):(a&&b)=true:=by rw [h,k];rfl
theorem printerReparse_k0:(Rows.printerReparseRow.wf (OpenSpec.ofChange (OpenSpec.ofChange Rows.printerReparseSpec).bare))=true:=by kernel_rfl
theorem printerReparse_k1:(laidOutB Tryz.pinned.checked.prog)=true:=by kernel_rfl
theorem printerReparse_k2:(mapsRowed Tryz.pinned.checked.prog)=true:=by kernel_rfl
theorem printerReparse_k3:(Tryz.f11.params.all (Tryz.pinned.checked.prog.readableRec ·))=true:=by kernel_rfl
theorem printerReparse_k4:(namedTie Tryz.pinned.checked.prog Rows.printerReparseRow.named (OpenSpec.ofChange Rows.printerReparseSpec).bare.vars)=true:=by kernel_rfl
theorem printerReparse_k5:(Rows.printerReparseRow.stops==[])=true:=by kernel_rfl
theorem printerReparse_k6:(Tryz.pinned.checked.prog.stops==[])=true:=by kernel_rfl
theorem printerReparse_k7:(Rows.printerReparseRow.knobs==[])=true:=by kernel_rfl
theorem printerReparse_k8:(Tryz.pinned.checked.prog.stopKnobs==[])=true:=by kernel_rfl
theorem printerReparse_k9:(Rows.printerReparseRow.inPlace==Tryz.pinned.checked.prog.inPlace 11)=true:=by kernel_rfl
theorem printerReparse_k10:(Rows.printerReparseRow.unfollowed==Tryz.pinned.checked.prog.unfollowed 11)=true:=by kernel_rfl
theorem printerReparse_k11:(Rows.printerReparseRow.recurses==Tryz.pinned.checked.prog.recurses 11)=true:=by kernel_rfl
theorem printerReparse_k12:(Rows.printerReparseRow.named==Tryz.pinned.checked.prog.varsNamed 11)=true:=by kernel_rfl
theorem printerReparse_k13:(Rows.printerReparseRow.maps==(Tryz.f11.params.toList++(OpenSpec.ofChange Rows.printerReparseSpec).bare.plain.varTypes Tryz.pinned.checked.prog).any (Tryz.pinned.checked.prog.mapsRec ·))=true:=by kernel_rfl
theorem printerReparse_k14:(Rows.printerReparseRow.ifaces==(Tryz.f11.params.toList++(OpenSpec.ofChange Rows.printerReparseSpec).bare.plain.varTypes Tryz.pinned.checked.prog).any (Tryz.pinned.checked.prog.ifacesRec ·))=true:=by kernel_rfl
theorem printerReparse_k15:(Rows.printerReparseRow.mapsOut==Tryz.pinned.checked.prog.mapsAmong Tryz.f11.resultTypes.toList)=true:=by kernel_rfl
theorem printerReparse_k16:(Rows.printerReparseRow.loops==(Tryz.f11.params.toList++(OpenSpec.ofChange Rows.printerReparseSpec).bare.plain.varTypes Tryz.pinned.checked.prog).any (Tryz.pinned.checked.prog.loopsFrom ·))=true:=by kernel_rfl
theorem printerReparse_k17:(Rows.printerReparseRow.wideKeys==(Tryz.f11.params.toList++(OpenSpec.ofChange Rows.printerReparseSpec).bare.plain.varTypes Tryz.pinned.checked.prog++Tryz.f11.resultTypes.toList).any (Tryz.pinned.checked.prog.wideKeysFrom ·))=true:=by kernel_rfl
theorem printerReparse_k18:((OpenSpec.ofChange Rows.printerReparseSpec).bare.vars.all (Tryz.pinned.checked.prog.varReadable ·))=true:=by kernel_rfl
theorem printerReparse_k19:(Tryz.f11.resultTypes.all (fun t=>Tryz.pinned.checked.prog.readableRec t&&decide (t<Tryz.pinned.checked.prog.types.size)))=true:=by kernel_rfl
theorem printerReparse_k20:(Rows.printerReparseRow.ifacesOut==Tryz.f11.resultTypes.toList.any (Tryz.pinned.checked.prog.ifacesRec ·))=true:=by kernel_rfl
theorem printerReparse_k21:(Rows.printerReparseRow.loopsOut==Tryz.f11.resultTypes.toList.any (Tryz.pinned.checked.prog.loopsFrom ·))=true:=by kernel_rfl
theorem printerReparse_k22:(Rows.printerReparseRow.plainKeys==Tryz.pinned.checked.prog.plainKeys)=true:=by kernel_rfl
theorem printerReparse_k23:(Rows.printerReparseRow.shortTexts.isNone)=true:=by kernel_rfl
theorem printerReparse_k24:(Tryz.pinned.checked.prog.stopsHeard)=true:=by kernel_rfl
theorem printerReparse_k25:(Tryz.pinned.checked.prog.mayEnter)=true:=by kernel_rfl
theorem printerReparse_k26:(Rows.printerReparseRow.lifted==Tryz.pinned.checked.prog.liftsFinal)=true:=by kernel_rfl
theorem printerReparse_k27:(Tryz.pinned.checked.prog.make==some Rows.printerReparseRow.make)=true:=by kernel_rfl
theorem printerReparse_k28:(Rows.printerReparseRow.kinds==(if Rows.printerReparseRow.domain.isEmpty then [] else Tryz.f11.params.toList.map fun t=>match Tryz.pinned.checked.prog.underlying t with | some (.int k)=>some k | _=>none))=true:=by kernel_rfl
theorem printerReparse_k29:(Rows.printerReparseRow.pinned==Rows.printerReparseRow.pinnedBy)=true:=by kernel_rfl
theorem printerReparse_k30:(Rows.printerReparseRow.veiled==(Tryz.f11.params.toList++(OpenSpec.ofChange Rows.printerReparseSpec).bare.plain.varTypes Tryz.pinned.checked.prog++Tryz.f11.resultTypes.toList).any (Tryz.pinned.checked.prog.veiledRec ·))=true:=by kernel_rfl
theorem printerReparse_k31:(Rows.printerReparseRow.veiledFits Tryz.pinned.checked.prog Tryz.f11.params.toList (Tryz.f11.params.toList++(OpenSpec.ofChange Rows.printerReparseSpec).bare.plain.varTypes Tryz.pinned.checked.prog++Tryz.f11.resultTypes.toList))=true:=by kernel_rfl
set_option maxRecDepth 100000 in
theorem printerReparse_closed:joinedFacts Tryz.pinned.checked.prog 11 Tryz.f11 (OpenSpec.ofChange Rows.printerReparseSpec).bare Rows.printerReparseRow=true:=by
 unfold joinedFacts
 exact (printerReparse_and (printerReparse_and (printerReparse_and (printerReparse_and (printerReparse_and (printerReparse_and (printerReparse_and (printerReparse_and (printerReparse_and (printerReparse_and (printerReparse_and (printerReparse_and (printerReparse_and (printerReparse_and (printerReparse_and (printerReparse_and (printerReparse_and (printerReparse_and (printerReparse_and (printerReparse_and (printerReparse_and (printerReparse_and (printerReparse_and (printerReparse_and (printerReparse_and (printerReparse_and (printerReparse_and (printerReparse_and (printerReparse_and (printerReparse_and (printerReparse_and printerReparse_k0 printerReparse_k1) printerReparse_k2) printerReparse_k3) printerReparse_k4) printerReparse_k5) printerReparse_k6) printerReparse_k7) printerReparse_k8) printerReparse_k9) printerReparse_k10) printerReparse_k11) printerReparse_k12) printerReparse_k13) printerReparse_k14) printerReparse_k15) printerReparse_k16) printerReparse_k17) printerReparse_k18) printerReparse_k19) printerReparse_k20) printerReparse_k21) printerReparse_k22) printerReparse_k23) printerReparse_k24) printerReparse_k25) printerReparse_k26) printerReparse_k27) printerReparse_k28) printerReparse_k29) printerReparse_k30) printerReparse_k31)

theorem printerReparse_said:Rows.PrinterReparseSaid :=
 OpenClaim.holds_of_cond 11 Tryz.f11 rfl rfl rfl rfl rfl rfl rfl ⟨rfl,rfl,rfl,rfl,rfl⟩ rfl rfl rfl rfl rfl (by kernel_rfl) Tryz.func11 printerReparse_closed
  (of_decide_eq_true (by kernel_rfl)) (by unfold Func.isWrapper;first | (rw [if_pos (by decide +kernel)];kernel_rfl) | (rw [if_neg (by decide +kernel)];exact⟨rfl,rfl⟩))
  (fun os started H enc _ F=>by rw [OpenClaim.pre_eq_preRow];exact printerReparse_lifted os started H enc F)
theorem printerReparse_plain (f:FuncId) (fn:Func) (hf:Tryz.pinned.checked.prog.funcNamed "palmette/palmettelaw11.PrinterReparse"=some f) (hfn:Tryz.pinned.checked.prog.funcs[f]?=some fn) :
  true=Tryz.pinned.checked.prog.looks []∧∀(j:Nat) t,fn.params[j]?=some t→Tryz.pinned.checked.prog.wantsStandIn t=false:=by
 obtain rfl:f=11:=Option.some.inj ((show Tryz.prog.funcNamed "palmette/palmettelaw11.PrinterReparse"=some 11 by kernel_rfl).symm.trans hf) |>.symm
 obtain rfl:fn=Tryz.f11:=(Option.some.inj (Tryz.func11.symm.trans hfn)).symm
 refine⟨by kernel_rfl,fun j t ht=>?_⟩
 rw [Tryz.params11] at ht
 have hm:t∈[9]:=by simpa using Array.mem_of_getElem? ht
 simp only [List.mem_cons,List.not_mem_nil,or_false] at hm
 rcases hm with rfl
 ·exact (show Tryz.prog.wantsStandIn 9=false by kernel_rfl)

/-- the law's card -/
theorem printerReparse:Rows.PrinterReparseCardSaid :=
 Claim7.holds_tied_plain_at .later [] _ _ _ _ printerReparse_said (fun _ h=>by cases h) (by kernel_rfl) (fun _ h=>by cases h) printerReparse_row_tie rfl ⟨rfl,rfl⟩ (by kernel_rfl) rfl printerReparse_plain (by kernel_rfl)
end Go.Proofs.YtkhbpebpljdifaaGreatDoor
