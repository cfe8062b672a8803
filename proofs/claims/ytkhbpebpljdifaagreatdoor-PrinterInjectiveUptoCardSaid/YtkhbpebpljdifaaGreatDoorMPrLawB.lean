/- PrinterInjective: two valid questions have the same printed form exactly if they are equal. Conditions: the row of its statement (tables and errors of the standard library read as their texts lay them; the arguments are together of bulk at most 1048576). -/
import Derived.Test.YtkhbpebpljdifaaGreatDoorMProB
import Derived.Deep.DeepWitnessRowRef
namespace Go.Proofs.YtkhbpebpljdifaaGreatDoor
open Go.ChangeShapes Go.WideShapes Go.ChangeAt Go.RowKit Go.PL Go.Deep
open Go.ChangeMaps (open_string)

theorem bulk_app {H:Type} (a b:List (DataW H)):Rows.uptoBulkAll (a++b)=Rows.uptoBulkAll a+Rows.uptoBulkAll b:=by
 induction a with
 | nil=>simp [Rows.uptoBulkAll]
 | cons x xs ih=>simp only [List.cons_append,Rows.uptoBulkAll,ih];omega
/-- A world for the witness: the settled one, the tables holding what their initialisers lay. -/
noncomputable def printerInjective_laidWorld (os:Os):World:=World.laidAll Tryz.prog os Rows.printerInjectiveUptoRow.laid
theorem printerInjective_laidWorld_os (os:Os):(printerInjective_laidWorld os).os=os:=World.laidAll_os _ _ _
theorem printerInjective_laid_met (os:Os) (args:Array Value):laidMet Tryz.prog Rows.printerInjectiveUptoRow.laid ((printerInjective_laidWorld os).forCall (fun _ _=>0) ⟨#[],args,[]⟩).memory :=
 laidMet_laidAll args (by kernel_rfl) (by kernel_rfl)

set_option maxRecDepth 100000 in
theorem printerInjective_contract (H:Type) (enc:TypeId×Value→H) (W:World) (base:Nat) (args:Array Value) (ds gs:List (DataW H)) (before:List MemPlace)
  (hval:∀(j:Nat) t v,Tryz.f8.params[j]?=some t→args[j]?=some v→Value.okWide Tryz.prog W .any base t v)
  (hW:DataW.Whole enc Tryz.prog Tryz.f8.params.toList Rows.printerInjectiveSpec.vars false W args.toList ds gs before) (hL:laidMetH Tryz.prog Rows.printerInjectiveUptoRow.laid W) (hk:Rows.uptoBulkAll (ds++gs)≤1048576) :
  Calls Tryz.prog 8 args W fun e W'=>∃v,e=.returned v∧Rows.printerInjectiveSpec.post enc Tryz.prog Tryz.f8 false true false false W args v W':=by
 rw [MakeChecks.laidMetH_plain _ _ _ (by kernel_rfl)] at hL
 have hE:=(⟨env_of hL (by kernel_rfl) (by kernel_rfl),senv_of hL (by kernel_rfl),fenv_of hL (by kernel_rfl),penv_of hL (by kernel_rfl) (by kernel_rfl)⟩:Env W∧SEnv W∧FEnv W∧PEnv W)
 have hW':=hW
 obtain⟨p,q,hA0,hV,rfl,hfz,hnd⟩:=hW
 have hA:DataW.TrodAll enc Tryz.prog W 0 (fun _=>true) true Tryz.f8.params.toList args.toList ds p:=hA0
 rw [Tryz.params8] at hA hval
 obtain⟨v0,vs0,d0,ds0,p0,q0,hargs,rfl,rfl,h0,r0⟩:=trodAll_cons hA
 obtain⟨v1,vs1,d1,ds1,p1,q1,rfl,rfl,rfl,h1,r1⟩:=trodAll_cons r0
 obtain⟨rfl,rfl,rfl⟩:=trodAll_nil r1
 simp only [bulk_app,Rows.uptoBulkAll] at hk
 obtain rfl:args=#[v0,v1]:=by cases args;simp_all
 have walk:Calls Tryz.prog 8 #[v0,v1] W fun e w'=>e=.returned (.bool true)∧Upto [] W w':=by
  obtain⟨qq0,hq0⟩:=kSz (okWide_struct Tryz.underlying45 (hval 0 45 v0 rfl rfl)) h0 (by omega)
  obtain⟨qq1,hq1⟩:=kSz (okWide_struct Tryz.underlying45 (hval 1 45 v1 rfl rfl)) h1 (by omega)
  exact printerInjective_walk qq0 v0 qq1 v1 W hq0 hq1 hE
 exact walk.mono fun e W' ⟨he,hu⟩=>⟨_,he,post_true (hv:=rfl) (by kernel_rfl) (by kernel_rfl) (by kernel_rfl) hW' (fun _=>rfl) hu⟩

set_option maxRecDepth 100000 in
theorem printerInjective_reads (os:Os) {H:Type} (enc:TypeId×Value→H):∃places,DataW.whole enc Tryz.prog ((printerInjective_laidWorld os).forCall (fun _ _=>0) ⟨#[],#[.agg #[.slice none 0 0,.int .i64 0,.slice none 0 0,.int .i64 0,.int .i64 0,.int .i64 0,.slice none 0 0],.agg #[.slice none 0 0,.int .i64 0,.slice none 0 0,.int .i64 0,.int .i64 0,.int .i64 0,.slice none 0 0]],[]⟩).memory Tryz.f8.params.toList Rows.printerInjectiveSpec.vars false #[.agg #[.slice none 0 0,.int .i64 0,.slice none 0 0,.int .i64 0,.int .i64 0,.int .i64 0,.slice none 0 0],.agg #[.slice none 0 0,.int .i64 0,.slice none 0 0,.int .i64 0,.int .i64 0,.int .i64 0,.slice none 0 0]].toList 8=some ([.agg [.nil,.agg [.lit (.int .i64 0),.nil,.lit (.int .i64 0),.lit (.int .i64 0),.lit (.int .i64 0),.nil]],.agg [.nil,.agg [.lit (.int .i64 0),.nil,.lit (.int .i64 0),.lit (.int .i64 0),.lit (.int .i64 0),.nil]]],[],places) :=
 ⟨[],by kernel_rfl⟩
set_option maxRecDepth 100000 in
theorem printerInjective_lifted (os:Os) (started:os.Started) (H:Type) (enc:TypeId×Value→H) (F:Stop.Interp) :
  ReturnsInHanded {} Tryz.checked os 8 .any ((Rows.OpenSpec.upto Rows.printerInjectiveSpec).preRow enc Tryz.prog Tryz.f8 Rows.printerInjectiveUptoRow.domain false Rows.printerInjectiveUptoRow.laid) (((Rows.OpenSpec.upto Rows.printerInjectiveSpec).at F).post enc Tryz.prog Tryz.f8 false true false false):=by
 obtain⟨places,hx⟩:=printerInjective_reads os enc
 refine returnsInHanded_of_row (C:=Tryz.checked) (s:=(Rows.OpenSpec.upto Rows.printerInjectiveSpec)) own started (by kernel_rfl) Tryz.func8
  (witness_row_atRef (enc:=enc) (C:=Tryz.checked) false (printerInjective_laidWorld os) #[.agg #[.slice none 0 0,.int .i64 0,.slice none 0 0,.int .i64 0,.int .i64 0,.int .i64 0,.slice none 0 0],.agg #[.slice none 0 0,.int .i64 0,.slice none 0 0,.int .i64 0,.int .i64 0,.int .i64 0,.slice none 0 0]] (printerInjective_laidWorld_os os) (by kernel_rfl) (by kernel_rfl) (by kernel_rfl)
   (OpenSpec.preRow_of_cond 8 hx (by kernel_rfl) (fun k hk=>by cases hk;kernel_rfl) (by kernel_rfl) (printerInjective_laid_met os _))) ?_
 intro W base args ds gs before hval hW _ hcond _ hL _ _
 exact printerInjective_contract H enc W base args ds gs before hval hW hL (of_decide_eq_true (hcond _ rfl))

theorem printerInjective_and {a b:Bool} (h:a=true) (k:b=true):(a&&b)=true:=by rw [h,k];rfl
theorem printerInjective_k0:(Rows.printerInjectiveUptoRow.wf (OpenSpec.ofChange (Rows.OpenSpec.upto Rows.printerInjectiveSpec).bare))=true:=by kernel_rfl
theorem printerInjective_k1:(laidOutB Tryz.pinned.checked.prog)=true:=by kernel_rfl
theorem printerInjective_k2:(mapsRowed Tryz.pinned.checked.prog)=true:=by kernel_rfl
theorem printerInjective_k3:(Tryz.f8.params.all (Tryz.pinned.checked.prog.readableRec ·))=true:=by kernel_rfl
theorem printerInjective_k4:(namedTie Tryz.pinned.checked.prog Rows.printerInjectiveUptoRow.named (Rows.OpenSpec.upto Rows.printerInjectiveSpec).bare.vars)=true:=by kernel_rfl
theorem printerInjective_k5:(Rows.printerInjectiveUptoRow.stops==[])=true:=by kernel_rfl
theorem printerInjective_k6:(Tryz.pinned.checked.prog.stops==[])=true:=by kernel_rfl
theorem printerInjective_k7:(Rows.printerInjectiveUptoRow.knobs==[])=true:=by kernel_rfl
theorem printerInjective_k8:(Tryz.pinned.checked.prog.stopKnobs==[])=true:=by kernel_rfl
theorem printerInjective_k9:(Rows.printerInjectiveUptoRow.inPlace==Tryz.pinned.checked.prog.inPlace 8)=true:=by kernel_rfl
theorem printerInjective_k10:(Rows.printerInjectiveUptoRow.unfollowed==Tryz.pinned.checked.prog.unfollowed 8)=true:=by kernel_rfl
theorem printerInjective_k11:(Rows.printerInjectiveUptoRow.recurses==Tryz.pinned.checked.prog.recurses 8)=true:=by kernel_rfl
theorem printerInjective_k12:(Rows.printerInjectiveUptoRow.named==Tryz.pinned.checked.prog.varsNamed 8)=true:=by kernel_rfl
theorem printerInjective_k13:(Rows.printerInjectiveUptoRow.maps==(Tryz.f8.params.toList++(Rows.OpenSpec.upto Rows.printerInjectiveSpec).bare.plain.varTypes Tryz.pinned.checked.prog).any (Tryz.pinned.checked.prog.mapsRec ·))=true:=by kernel_rfl
theorem printerInjective_k14:(Rows.printerInjectiveUptoRow.ifaces==(Tryz.f8.params.toList++(Rows.OpenSpec.upto Rows.printerInjectiveSpec).bare.plain.varTypes Tryz.pinned.checked.prog).any (Tryz.pinned.checked.prog.ifacesRec ·))=true:=by kernel_rfl
theorem printerInjective_k15:(Rows.printerInjectiveUptoRow.mapsOut==Tryz.pinned.checked.prog.mapsAmong Tryz.f8.resultTypes.toList)=true:=by kernel_rfl
theorem printerInjective_k16:(Rows.printerInjectiveUptoRow.loops==(Tryz.f8.params.toList++(Rows.OpenSpec.upto Rows.printerInjectiveSpec).bare.plain.varTypes Tryz.pinned.checked.prog).any (Tryz.pinned.checked.prog.loopsFrom ·))=true:=by kernel_rfl
theorem printerInjective_k17:(Rows.printerInjectiveUptoRow.wideKeys==(Tryz.f8.params.toList++(Rows.OpenSpec.upto Rows.printerInjectiveSpec).bare.plain.varTypes Tryz.pinned.checked.prog++Tryz.f8.resultTypes.toList).any (Tryz.pinned.checked.prog.wideKeysFrom ·))=true:=by kernel_rfl
theorem printerInjective_k18:((Rows.OpenSpec.upto Rows.printerInjectiveSpec).bare.vars.all (Tryz.pinned.checked.prog.varReadable ·))=true:=by kernel_rfl
theorem printerInjective_k19:(Tryz.f8.resultTypes.all (fun t=>Tryz.pinned.checked.prog.readableRec t&&decide (t<Tryz.pinned.checked.prog.types.size)))=true:=by kernel_rfl
theorem printerInjective_k20:(Rows.printerInjectiveUptoRow.ifacesOut==Tryz.f8.resultTypes.toList.any (Tryz.pinned.checked.prog.ifacesRec ·))=true:=by kernel_rfl
theorem printerInjective_k21:(Rows.printerInjectiveUptoRow.loopsOut==Tryz.f8.resultTypes.toList.any (Tryz.pinned.checked.prog.loopsFrom ·))=true:=by kernel_rfl
theorem printerInjective_k22:(Rows.printerInjectiveUptoRow.plainKeys==Tryz.pinned.checked.prog.plainKeys)=true:=by kernel_rfl
theorem printerInjective_k23:(Rows.printerInjectiveUptoRow.shortTexts.isNone)=true:=by kernel_rfl
theorem printerInjective_k24:(Tryz.pinned.checked.prog.stopsHeard)=true:=by kernel_rfl
theorem printerInjective_k25:(Tryz.pinned.checked.prog.mayEnter)=true:=by kernel_rfl
theorem printerInjective_k26:(Rows.printerInjectiveUptoRow.lifted==Tryz.pinned.checked.prog.liftsFinal)=true:=by kernel_rfl
theorem printerInjective_k27:(Tryz.pinned.checked.prog.make==some Rows.printerInjectiveUptoRow.make)=true:=by kernel_rfl
theorem printerInjective_k28:(Rows.printerInjectiveUptoRow.kinds==(if Rows.printerInjectiveUptoRow.domain.isEmpty then [] else Tryz.f8.params.toList.map fun t=>match Tryz.pinned.checked.prog.underlying t with | some (.int k)=>some k | _=>none))=true:=by kernel_rfl
theorem printerInjective_k29:(Rows.printerInjectiveUptoRow.pinned==Rows.printerInjectiveUptoRow.pinnedBy)=true:=by kernel_rfl
theorem printerInjective_k30:(Rows.printerInjectiveUptoRow.veiled==(Tryz.f8.params.toList++(Rows.OpenSpec.upto Rows.printerInjectiveSpec).bare.plain.varTypes Tryz.pinned.checked.prog++Tryz.f8.resultTypes.toList).any (Tryz.pinned.checked.prog.veiledRec ·))=true:=by kernel_rfl
theorem printerInjective_k31:(Rows.printerInjectiveUptoRow.veiledFits Tryz.pinned.checked.prog Tryz.f8.params.toList (Tryz.f8.params.toList++(Rows.OpenSpec.upto Rows.printerInjectiveSpec).bare.plain.varTypes Tryz.pinned.checked.prog++Tryz.f8.resultTypes.toList))=true:=by kernel_rfl
set_option maxRecDepth 100000 in
theorem printerInjective_closed:joinedFacts Tryz.pinned.checked.prog 8 Tryz.f8 (Rows.OpenSpec.upto Rows.printerInjectiveSpec).bare Rows.printerInjectiveUptoRow=true:=by
 unfold joinedFacts
 exact (printerInjective_and (printerInjective_and (printerInjective_and (printerInjective_and (printerInjective_and (printerInjective_and (printerInjective_and (printerInjective_and (printerInjective_and (printerInjective_and (printerInjective_and (printerInjective_and (printerInjective_and (printerInjective_and (printerInjective_and (printerInjective_and (printerInjective_and (printerInjective_and (printerInjective_and (printerInjective_and (printerInjective_and (printerInjective_and (printerInjective_and (printerInjective_and (printerInjective_and (printerInjective_and (printerInjective_and (printerInjective_and (printerInjective_and (printerInjective_and (printerInjective_and printerInjective_k0 printerInjective_k1) printerInjective_k2) printerInjective_k3) printerInjective_k4) printerInjective_k5) printerInjective_k6) printerInjective_k7) printerInjective_k8) printerInjective_k9) printerInjective_k10) printerInjective_k11) printerInjective_k12) printerInjective_k13) printerInjective_k14) printerInjective_k15) printerInjective_k16) printerInjective_k17) printerInjective_k18) printerInjective_k19) printerInjective_k20) printerInjective_k21) printerInjective_k22) printerInjective_k23) printerInjective_k24) printerInjective_k25) printerInjective_k26) printerInjective_k27) printerInjective_k28) printerInjective_k29) printerInjective_k30) printerInjective_k31)

theorem printerInjective_said:Rows.PrinterInjectiveUptoSaid :=
 OpenClaim.holds_of_cond 8 Tryz.f8 rfl rfl rfl rfl rfl rfl rfl ⟨rfl,rfl,rfl,rfl,rfl⟩ rfl rfl rfl rfl rfl (by kernel_rfl) Tryz.func8 printerInjective_closed
  (of_decide_eq_true (by kernel_rfl)) (by unfold Func.isWrapper;first | (rw [if_pos (by decide +kernel)];kernel_rfl) | (rw [if_neg (by decide +kernel)];exact⟨rfl,rfl⟩))
  (fun os started H enc _ F=>by rw [OpenClaim.pre_eq_preRow];exact printerInjective_lifted os started H enc F)
theorem printerInjective_plain (f:FuncId) (fn:Func) (hf:Tryz.pinned.checked.prog.funcNamed "palmette/palmettelaw11.PrinterInjective"=some f) (hfn:Tryz.pinned.checked.prog.funcs[f]?=some fn) :
  true=Tryz.pinned.checked.prog.looks []∧∀(j:Nat) t,fn.params[j]?=some t→Tryz.pinned.checked.prog.wantsStandIn t=false:=by
 obtain rfl:f=8:=Option.some.inj ((show Tryz.prog.funcNamed "palmette/palmettelaw11.PrinterInjective"=some 8 by kernel_rfl).symm.trans hf) |>.symm
 obtain rfl:fn=Tryz.f8:=(Option.some.inj (Tryz.func8.symm.trans hfn)).symm
 refine⟨by kernel_rfl,fun j t ht=>?_⟩
 rw [Tryz.params8] at ht
 have hm:t∈[45,45]:=by simpa using Array.mem_of_getElem? ht
 simp only [List.mem_cons,List.not_mem_nil,or_false] at hm
 rcases hm with rfl | rfl
 ·exact (show Tryz.prog.wantsStandIn 45=false by kernel_rfl)
 ·exact (show Tryz.prog.wantsStandIn 45=false by kernel_rfl)

/-- the law's card -/
theorem printerInjective:Rows.PrinterInjectiveUptoCardSaid :=
 Claim7.holds_tied_plain_at .later [] _ _ _ _ printerInjective_said (fun _ h=>by cases h) (by kernel_rfl) (fun _ h=>by cases h) printerInjectiveUpto_row_tie rfl ⟨rfl,rfl⟩ (by kernel_rfl) rfl printerInjective_plain (by kernel_rfl)
end Go.Proofs.YtkhbpebpljdifaaGreatDoor
