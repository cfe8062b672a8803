/- PrinterTokens: the printed form consists of its tokens joined by single spaces. Conditions: the row of its statement (tables and errors of the standard library read as their texts lay them; the arguments are together of bulk at most 1048576). -/
import Derived.Test.YtkhbpebpljdifaaGreatDoorMProC
import Derived.Deep.DeepWitnessRowRef
namespace Go.Proofs.YtkhbpebpljdifaaGreatDoor
open Go.ChangeShapes Go.WideShapes Go.ChangeAt Go.RowKit Go.PL Go.Deep
open Go.ChangeMaps (open_string)

theorem bulk_app {H:Type} (a b:List (DataW H)):Rows.uptoBulkAll (a++b)=Rows.uptoBulkAll a+Rows.uptoBulkAll b:=by
 induction a with
 | nil=>simp [Rows.uptoBulkAll]
 | cons x xs ih=>simp only [List.cons_append,Rows.uptoBulkAll,ih];omega
/-- A world for the witness: the settled one, the tables holding what their initialisers lay. -/
noncomputable def printerTokens_laidWorld (os:Os):World:=World.laidAll Tryz.prog os Rows.printerTokensUptoRow.laid
theorem printerTokens_laidWorld_os (os:Os):(printerTokens_laidWorld os).os=os:=World.laidAll_os _ _ _
theorem printerTokens_laid_met (os:Os) (args:Array Value):laidMet Tryz.prog Rows.printerTokensUptoRow.laid ((printerTokens_laidWorld os).forCall (fun _ _=>0) ⟨#[],args,[]⟩).memory :=
 laidMet_laidAll args (by kernel_rfl) (by kernel_rfl)

set_option maxRecDepth 100000 in
theorem printerTokens_contract (H:Type) (enc:TypeId×Value→H) (W:World) (base:Nat) (args:Array Value) (ds gs:List (DataW H)) (before:List MemPlace)
  (hval:∀(j:Nat) t v,Tryz.f10.params[j]?=some t→args[j]?=some v→Value.okWide Tryz.prog W .any base t v)
  (hW:DataW.Whole enc Tryz.prog Tryz.f10.params.toList Rows.printerTokensSpec.vars false W args.toList ds gs before) (hL:laidMetH Tryz.prog Rows.printerTokensUptoRow.laid W) (hk:Rows.uptoBulkAll (ds++gs)≤1048576) :
  Calls Tryz.prog 10 args W fun e W'=>∃v,e=.returned v∧Rows.printerTokensSpec.post enc Tryz.prog Tryz.f10 false true false false W args v W':=by
 rw [MakeChecks.laidMetH_plain _ _ _ (by kernel_rfl)] at hL
 have hE:=(⟨env_of hL (by kernel_rfl) (by kernel_rfl),senv_of hL (by kernel_rfl),fenv_of hL (by kernel_rfl),penv_of hL (by kernel_rfl) (by kernel_rfl)⟩:Env W∧SEnv W∧FEnv W∧PEnv W)
 have hW':=hW
 obtain⟨p,q,hA0,hV,rfl,hfz,hnd⟩:=hW
 have hA:DataW.TrodAll enc Tryz.prog W 0 (fun _=>true) true Tryz.f10.params.toList args.toList ds p:=hA0
 rw [Tryz.params10] at hA hval
 obtain⟨v0,vs0,d0,ds0,p0,q0,hargs,rfl,rfl,h0,r0⟩:=trodAll_cons hA
 obtain⟨rfl,rfl,rfl⟩:=trodAll_nil r0
 simp only [bulk_app,Rows.uptoBulkAll] at hk
 obtain rfl:args=#[v0]:=by cases args;simp_all
 have walk:Calls Tryz.prog 10 #[v0] W fun e w'=>e=.returned (.bool true)∧Upto [] W w':=by
  obtain⟨qq0,hq0⟩:=kSz (okWide_struct Tryz.underlying45 (hval 0 45 v0 rfl rfl)) h0 (by omega)
  exact printerTokens_walk qq0 v0 W hq0 hE
 exact walk.mono fun e W' ⟨he,hu⟩=>⟨_,he,post_true (hv:=rfl) (by kernel_rfl) (by kernel_rfl) (by kernel_rfl) hW' (fun _=>rfl) hu⟩

set_option maxRecDepth 100000 in
theorem printerTokens_reads (os:Os) {H:Type} (enc:TypeId×Value→H):∃places,DataW.whole enc Tryz.prog ((printerTokens_laidWorld os).forCall (fun _ _=>0) ⟨#[],#[.agg #[.slice none 0 0,.int .i64 0,.slice none 0 0,.int .i64 0,.int .i64 0,.int .i64 0,.slice none 0 0]],[]⟩).memory Tryz.f10.params.toList Rows.printerTokensSpec.vars false #[.agg #[.slice none 0 0,.int .i64 0,.slice none 0 0,.int .i64 0,.int .i64 0,.int .i64 0,.slice none 0 0]].toList 8=some ([.agg [.nil,.agg [.lit (.int .i64 0),.nil,.lit (.int .i64 0),.lit (.int .i64 0),.lit (.int .i64 0),.nil]]],[],places) :=
 ⟨[],by kernel_rfl⟩
set_option maxRecDepth 100000 in
theorem printerTokens_lifted (os:Os) (started:os.Started) (H:Type) (enc:TypeId×Value→H) (F:Stop.Interp) :
  ReturnsInHanded {} Tryz.checked os 10 .any ((Rows.OpenSpec.upto Rows.printerTokensSpec).preRow enc Tryz.prog Tryz.f10 Rows.printerTokensUptoRow.domain false Rows.printerTokensUptoRow.laid) (((Rows.OpenSpec.upto Rows.printerTokensSpec).at F).post enc Tryz.prog Tryz.f10 false true false false):=by
 obtain⟨places,hx⟩:=printerTokens_reads os enc
 refine returnsInHanded_of_row (C:=Tryz.checked) (s:=(Rows.OpenSpec.upto Rows.printerTokensSpec)) own started (by kernel_rfl) Tryz.func10
  (witness_row_atRef (enc:=enc) (C:=Tryz.checked) false (printerTokens_laidWorld os) #[.agg #[.slice none 0 0,.int .i64 0,.slice none 0 0,.int .i64 0,.int .i64 0,.int .i64 0,.slice none 0 0]] (printerTokens_laidWorld_os os) (by kernel_rfl) (by kernel_rfl) (by kernel_rfl)
   (OpenSpec.preRow_of_cond 8 hx (by kernel_rfl) (fun k hk=>by cases hk;kernel_rfl) (by kernel_rfl) (printerTokens_laid_met os _))) ?_
 intro W base args ds gs before hval hW _ hcond _ hL _ _
 exact printerTokens_contract H enc W base args ds gs before hval hW hL (of_decide_eq_true (hcond _ rfl))

theorem printerTokens_and {a b:Bool} (h:a=true) (k:b=true):(a&&b)=true:=by rw [h,k];rfl
theorem printerTokens_k0:(Rows.printerTokensUptoRow.wf (OpenSpec.ofChange (Rows.OpenSpec.upto Rows.printerTokensSpec).bare))=true:=by kernel_rfl
theorem printerTokens_k1:(laidOutB Tryz.pinned.checked.prog)=true:=by kernel_rfl
theorem printerTokens_k2:(mapsRowed Tryz.pinned.checked.prog)=true:=by kernel_rfl
theorem printerTokens_k3:(Tryz.f10.params.all (Tryz.pinned.checked.prog.readableRec ·))=true:=by kernel_rfl
theorem printerTokens_k4:(namedTie Tryz.pinned.checked.prog Rows.printerTokensUptoRow.named (Rows.OpenSpec.upto Rows.printerTokensSpec).bare.vars)=true:=by kernel_rfl
theorem printerTokens_k5:(Rows.printerTokensUptoRow.stops==[])=true:=by kernel_rfl
theorem printerTokens_k6:(Tryz.pinned.checked.prog.stops==[])=true:=by kernel_rfl
theorem printerTokens_k7:(Rows.printerTokensUptoRow.knobs==[])=true:=by kernel_rfl
theorem printerTokens_k8:(Tryz.pinned.checked.prog.stopKnobs==[])=true:=by kernel_rfl
theorem printerTokens_k9:(Rows.printerTokensUptoRow.inPlace==Tryz.pinned.checked.prog.inPlace 10)=true:=by kernel_rfl
theorem printerTokens_k10:(Rows.printerTokensUptoRow.unfollowed==Tryz.pinned.checked.prog.unfollowed 10)=true:=by kernel_rfl
theorem printerTokens_k11:(Rows.printerTokensUptoRow.recurses==Tryz.pinned.checked.prog.recurses 10)=true:=by kernel_rfl
theorem printerTokens_k12:(Rows.printerTokensUptoRow.named==Tryz.pinned.checked.prog.varsNamed 10)=true:=by kernel_rfl
theorem printerTokens_k13:(Rows.printerTokensUptoRow.maps==(Tryz.f10.params.toList++(Rows.OpenSpec.upto Rows.printerTokensSpec).bare.plain.varTypes Tryz.pinned.checked.prog).any (Tryz.pinned.checked.prog.mapsRec ·))=true:=by kernel_rfl
theorem printerTokens_k14:(Rows.printerTokensUptoRow.ifaces==(Tryz.f10.params.toList++(Rows.OpenSpec.upto Rows.printerTokensSpec).bare.plain.varTypes Tryz.pinned.checked.prog).any (Tryz.pinned.checked.prog.ifacesRec ·))=true:=by kernel_rfl
theorem printerTokens_k15:(Rows.printerTokensUptoRow.mapsOut==Tryz.pinned.checked.prog.mapsAmong Tryz.f10.resultTypes.toList)=true:=by kernel_rfl
theorem printerTokens_k16:(Rows.printerTokensUptoRow.loops==(Tryz.f10.params.toList++(Rows.OpenSpec.upto Rows.printerTokensSpec).bare.plain.varTypes Tryz.pinned.checked.prog).any (Tryz.pinned.checked.prog.loopsFrom ·))=true:=by kernel_rfl
theorem printerTokens_k17:(Rows.printerTokensUptoRow.wideKeys==(Tryz.f10.params.toList++(Rows.OpenSpec.upto Rows.printerTokensSpec).bare.plain.varTypes Tryz.pinned.checked.prog++Tryz.f10.resultTypes.toList).any (Tryz.pinned.checked.prog.wideKeysFrom ·))=true:=by kernel_rfl
theorem printerTokens_k18:((Rows.OpenSpec.upto Rows.printerTokensSpec).bare.vars.all (Tryz.pinned.checked.prog.varReadable ·))=true:=by kernel_rfl
theorem printerTokens_k19:(Tryz.f10.resultTypes.all (fun t=>Tryz.pinned.checked.prog.readableRec t&&decide (t<Tryz.pinned.checked.prog.types.size)))=true:=by kernel_rfl
theorem printerTokens_k20:(Rows.printerTokensUptoRow.ifacesOut==Tryz.f10.resultTypes.toList.any (Tryz.pinned.checked.prog.ifacesRec ·))=true:=by kernel_rfl
theorem printerTokens_k21:(Rows.printerTokensUptoRow.loopsOut==Tryz.f10.resultTypes.toList.any (Tryz.pinned.checked.prog.loopsFrom ·))=true:=by kernel_rfl
theorem printerTokens_k22:(Rows.printerTokensUptoRow.plainKeys==Tryz.pinned.checked.prog.plainKeys)=true:=by kernel_rfl
theorem printerTokens_k23:(Rows.printerTokensUptoRow.shortTexts.isNone)=true:=by kernel_rfl
theorem printerTokens_k24:(Tryz.pinned.checked.prog.stopsHeard)=true:=by kernel_rfl
theorem printerTokens_k25:(Tryz.pinned.checked.prog.mayEnter)=true:=by kernel_rfl
theorem printerTokens_k26:(Rows.printerTokensUptoRow.lifted==Tryz.pinned.checked.prog.liftsFinal)=true:=by kernel_rfl
theorem printerTokens_k27:(Tryz.pinned.checked.prog.make==some Rows.printerTokensUptoRow.make)=true:=by kernel_rfl
theorem printerTokens_k28:(Rows.printerTokensUptoRow.kinds==(if Rows.printerTokensUptoRow.domain.isEmpty then [] else Tryz.f10.params.toList.map fun t=>match Tryz.pinned.checked.prog.underlying t with | some (.int k)=>some k | _=>none))=true:=by kernel_rfl
theorem printerTokens_k29:(Rows.printerTokensUptoRow.pinned==Rows.printerTokensUptoRow.pinnedBy)=true:=by kernel_rfl
theorem printerTokens_k30:(Rows.printerTokensUptoRow.veiled==(Tryz.f10.params.toList++(Rows.OpenSpec.upto Rows.printerTokensSpec).bare.plain.varTypes Tryz.pinned.checked.prog++Tryz.f10.resultTypes.toList).any (Tryz.pinned.checked.prog.veiledRec ·))=true:=by kernel_rfl
theorem printerTokens_k31:(Rows.printerTokensUptoRow.veiledFits Tryz.pinned.checked.prog Tryz.f10.params.toList (Tryz.f10.params.toList++(Rows.OpenSpec.upto Rows.printerTokensSpec).bare.plain.varTypes Tryz.pinned.checked.prog++Tryz.f10.resultTypes.toList))=true:=by kernel_rfl
set_option maxRecDepth 100000 in
theorem printerTokens_closed:joinedFacts Tryz.pinned.checked.prog 10 Tryz.f10 (Rows.OpenSpec.upto Rows.printerTokensSpec).bare Rows.printerTokensUptoRow=true:=by
 unfold joinedFacts
 exact (printerTokens_and (printerTokens_and (printerTokens_and (printerTokens_and (printerTokens_and (printerTokens_and (printerTokens_and (printerTokens_and (printerTokens_and (printerTokens_and (printerTokens_and (printerTokens_and (printerTokens_and (printerTokens_and (printerTokens_and (printerTokens_and (printerTokens_and (printerTokens_and (printerTokens_and (printerTokens_and (printerTokens_and (printerTokens_and (printerTokens_and (printerTokens_and (printerTokens_and (printerTokens_and (printerTokens_and (printerTokens_and (printerTokens_and (printerTokens_and (printerTokens_and printerTokens_k0 printerTokens_k1) printerTokens_k2) printerTokens_k3) printerTokens_k4) printerTokens_k5) printerTokens_k6) printerTokens_k7) printerTokens_k8) printerTokens_k9) printerTokens_k10) printerTokens_k11) printerTokens_k12) printerTokens_k13) printerTokens_k14) printerTokens_k15) printerTokens_k16) printerTokens_k17) printerTokens_k18) printerTokens_k19) printerTokens_k20) printerTokens_k21) printerTokens_k22) printerTokens_k23) printerTokens_k24) printerTokens_k25) printerTokens_k26) printerTokens_k27) printerTokens_k28) printerTokens_k29) printerTokens_k30) printerTokens_k31)

theorem printerTokens_said:Rows.PrinterTokensUptoSaid :=
 OpenClaim.holds_of_cond 10 Tryz.f10 rfl rfl rfl rfl rfl rfl rfl ⟨rfl,rfl,rfl,rfl,rfl⟩ rfl rfl rfl rfl rfl (by kernel_rfl) Tryz.func10 printerTokens_closed
  (of_decide_eq_true (by kernel_rfl)) (by unfold Func.isWrapper;first | (rw [if_pos (by decide +kernel)];kernel_rfl) | (rw [if_neg (by decide +kernel)];exact⟨rfl,rfl⟩))
  (fun os started H enc _ F=>by rw [OpenClaim.pre_eq_preRow];exact printerTokens_lifted os started H enc F)
theorem printerTokens_plain (f:FuncId) (fn:Func) (hf:Tryz.pinned.checked.prog.funcNamed "palmette/palmettelaw11.PrinterTokens"=some f) (hfn:Tryz.pinned.checked.prog.funcs[f]?=some fn) :
  true=Tryz.pinned.checked.prog.looks []∧∀(j:Nat) t,fn.params[j]?=some t→Tryz.pinned.checked.prog.wantsStandIn t=false:=by
 obtain rfl:f=10:=Option.some.inj ((show Tryz.prog.funcNamed "palmette/palmettelaw11.PrinterTokens"=some 10 by kernel_rfl).symm.trans hf) |>.symm
 obtain rfl:fn=Tryz.f10:=(Option.some.inj (Tryz.func10.symm.trans hfn)).symm
 refine⟨by kernel_rfl,fun j t ht=>?_⟩
 rw [Tryz.params10] at ht
 have hm:t∈[45]:=by simpa using Array.mem_of_getElem? ht
 simp only [List.mem_cons,List.not_mem_nil,or_false] at hm
 rcases hm with rfl
 ·exact (show Tryz.prog.wantsStandIn 45=false by kernel_rfl)

/-- the law's card -/
theorem printerTokens:Rows.PrinterTokensUptoCardSaid :=
 Claim7.holds_tied_plain_at .later [] _ _ _ _ printerTokens_said (fun _ h=>by cases h) (by kernel_rfl) (fun _ h=>by cases h) printerTokensUpto_row_tie rfl ⟨rfl,rfl⟩ (by kernel_rfl) rfl printerTokens_plain (by kernel_rfl)
end Go.Proofs.YtkhbpebpljdifaaGreatDoor
