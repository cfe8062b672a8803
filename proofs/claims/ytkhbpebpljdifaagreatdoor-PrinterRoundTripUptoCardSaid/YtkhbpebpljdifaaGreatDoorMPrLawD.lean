/- PrinterRoundTrip: parsing the printed form of a valid question yields the same question. Conditions: the row of its statement (tables and errors of the standard library read as their texts lay them; the arguments are together of bulk at most 1048576). -/
import Derived.Test.YtkhbpebpljdifaaGreatDoorMProD
import Derived.Deep.DeepWitnessRowRef
namespace Go.Proofs.YtkhbpebpljdifaaGreatDoor
open Go.ChangeShapes Go.WideShapes Go.ChangeAt Go.RowKit Go.PL Go.Deep
open Go.ChangeMaps (open_string)

theorem bulk_app {H:Type} (a b:List (DataW H)):Rows.uptoBulkAll (a++b)=Rows.uptoBulkAll a+Rows.uptoBulkAll b:=by
 induction a with
 | nil=>simp [Rows.uptoBulkAll]
 | cons x xs ih=>simp only [List.cons_append,Rows.uptoBulkAll,ih];omega
/-- A world for the witness: the settled one, the tables holding what their initialisers lay. -/
noncomputable def printerRoundTrip_laidWorld (os:Os):World:=World.laidAll Tryz.prog os Rows.printerRoundTripUptoRow.laid
theorem printerRoundTrip_laidWorld_os (os:Os):(printerRoundTrip_laidWorld os).os=os:=World.laidAll_os _ _ _
theorem printerRoundTrip_laid_met (os:Os) (args:Array Value):laidMet Tryz.prog Rows.printerRoundTripUptoRow.laid ((printerRoundTrip_laidWorld os).forCall (fun _ _=>0) ⟨#[],args,[]⟩).memory :=
 laidMet_laidAll args (by kernel_rfl) (by kernel_rfl)

set_option maxRecDepth 100000 in
theorem printerRoundTrip_contract (H:Type) (enc:TypeId×Value→H) (W:World) (base:Nat) (args:Array Value) (ds gs:List (DataW H)) (before:List MemPlace)
  (hval:∀(j:Nat) t v,Tryz.f13.params[j]?=some t→args[j]?=some v→Value.okWide Tryz.prog W .any base t v)
  (hW:DataW.Whole enc Tryz.prog Tryz.f13.params.toList Rows.printerRoundTripSpec.vars false W args.toList ds gs before) (hL:laidMetH Tryz.prog Rows.printerRoundTripUptoRow.laid W) (hk:Rows.uptoBulkAll (ds++gs)≤1048576) :
  Calls Tryz.prog 13 args W fun e W'=>∃v,e=.returned v∧Rows.printerRoundTripSpec.post enc Tryz.prog Tryz.f13 false true false false W args v W':=by
 rw [MakeChecks.laidMetH_plain _ _ _ (by kernel_rfl)] at hL
 have hE:=(⟨env_of hL (by kernel_rfl) (by kernel_rfl),senv_of hL (by kernel_rfl),fenv_of hL (by kernel_rfl),penv_of hL (by kernel_rfl) (by kernel_rfl)⟩:Env W∧SEnv W∧FEnv W∧PEnv W)
 have hW':=hW
 obtain⟨p,q,hA0,hV,rfl,hfz,hnd⟩:=hW
 have hA:DataW.TrodAll enc Tryz.prog W 0 (fun _=>true) true Tryz.f13.params.toList args.toList ds p:=hA0
 rw [Tryz.params13] at hA hval
 obtain⟨v0,vs0,d0,ds0,p0,q0,hargs,rfl,rfl,h0,r0⟩:=trodAll_cons hA
 obtain⟨rfl,rfl,rfl⟩:=trodAll_nil r0
 simp only [bulk_app,Rows.uptoBulkAll] at hk
 obtain rfl:args=#[v0]:=by cases args;simp_all
 have walk:Calls Tryz.prog 13 #[v0] W fun e w'=>e=.returned (.bool true)∧Upto [] W w':=by
  obtain⟨qq0,hq0⟩:=kSz (okWide_struct Tryz.underlying45 (hval 0 45 v0 rfl rfl)) h0 (by omega)
  exact printerRoundTrip_walk qq0 v0 W hq0 hE
 exact walk.mono fun e W' ⟨he,hu⟩=>⟨_,he,post_true (hv:=rfl) (by kernel_rfl) (by kernel_rfl) (by kernel_rfl) hW' (fun _=>rfl) hu⟩

set_option maxRecDepth 100000 in
theorem printerRoundTrip_reads (os:Os) {H:Type} (enc:TypeId×Value→H):∃places,DataW.whole enc Tryz.prog ((printerRoundTrip_laidWorld os).forCall (fun _ _=>0) ⟨#[],#[.agg #[.slice none 0 0,.int .i64 0,.slice none 0 0,.int .i64 0,.int .i64 0,.int .i64 0,.slice none 0 0]],[]⟩).memory Tryz.f13.params.toList Rows.printerRoundTripSpec.vars false #[.agg #[.slice none 0 0,.int .i64 0,.slice none 0 0,.int .i64 0,.int .i64 0,.int .i64 0,.slice none 0 0]].toList 8=some ([.agg [.nil,.agg [.lit (.int .i64 0),.nil,.lit (.int .i64 0),.lit (.int .i64 0),.lit (.int .i64 0),.nil]]],[],places) :=
 ⟨[],by kernel_rfl⟩
set_option maxRecDepth 100000 in
theorem printerRoundTrip_lifted (os:Os) (started:os.Started) (H:Type) (enc:TypeId×Value→H) (F:Stop.Interp) :
  ReturnsInHanded {} Tryz.checked os 13 .any ((Rows.OpenSpec.upto Rows.printerRoundTripSpec).preRow enc Tryz.prog Tryz.f13 Rows.printerRoundTripUptoRow.domain false Rows.printerRoundTripUptoRow.laid) (((Rows.OpenSpec.upto Rows.printerRoundTripSpec).at F).post enc Tryz.prog Tryz.f13 false true false false):=by
 obtain⟨places,hx⟩:=printerRoundTrip_reads os enc
 refine returnsInHanded_of_row (C:=Tryz.checked) (s:=(Rows.OpenSpec.upto Rows.printerRoundTripSpec)) own started (by kernel_rfl) Tryz.func13
  (witness_row_atRef (enc:=enc) (C:=Tryz.checked) false (printerRoundTrip_laidWorld os) #[.agg #[.slice none 0 0,.int .i64 0,.slice none 0 0,.int .i64 0,.int .i64 0,.int .i64 0,.slice none 0 0]] (printerRoundTrip_laidWorld_os os) (by kernel_rfl) (by kernel_rfl) (by kernel_rfl)
   (OpenSpec.preRow_of_cond 8 hx (by kernel_rfl) (fun k hk=>by cases hk;kernel_rfl) (by kernel_rfl) (printerRoundTrip_laid_met os _))) ?_
 intro W base args ds gs before hval hW _ hcond _ hL _ _
 exact printerRoundTrip_contract H enc W base args ds gs before hval hW hL (of_decide_eq_true (hcond _ rfl))

theorem printerRoundTrip_and {a b:Bool} (h:a=true) (k:b=true):(a&&b)=true:=by rw [h,k];rfl
theorem printerRoundTrip_k0:(Rows.printerRoundTripUptoRow.wf (OpenSpec.ofChange (Rows.OpenSpec.upto Rows.printerRoundTripSpec).bare))=true:=by kernel_rfl
theorem printerRoundTrip_k1:(laidOutB Tryz.pinned.checked.prog)=true:=by kernel_rfl
theorem printerRoundTrip_k2:(mapsRowed Tryz.pinned.checked.prog)=true:=by kernel_rfl
theorem printerRoundTrip_k3:(Tryz.f13.params.all (Tryz.pinned.checked.prog.readableRec ·))=true:=by kernel_rfl
theorem printerRoundTrip_k4:(namedTie Tryz.pinned.checked.prog Rows.printerRoundTripUptoRow.named (Rows.OpenSpec.upto Rows.printerRoundTripSpec).bare.vars)=true:=by kernel_rfl
theorem printerRoundTrip_k5:(Rows.printerRoundTripUptoRow.stops==[])=true:=by kernel_rfl
theorem printerRoundTrip_k6:(Tryz.pinned.checked.prog.stops==[])=true:=by kernel_rfl
theorem printerRoundTrip_k7:(Rows.printerRoundTripUptoRow.knobs==[])=true:=by kernel_rfl
theorem printerRoundTrip_k8:(Tryz.pinned.checked.prog.stopKnobs==[])=true:=by kernel_rfl
theorem printerRoundTrip_k9:(Rows.printerRoundTripUptoRow.inPlace==Tryz.pinned.checked.prog.inPlace 13)=true:=by kernel_rfl
theorem printerRoundTrip_k10:(Rows.printerRoundTripUptoRow.unfollowed==Tryz.pinned.checked.prog.unfollowed 13)=true:=by kernel_rfl
theorem printerRoundTrip_k11:(Rows.printerRoundTripUptoRow.recurses==Tryz.pinned.checked.prog.recurses 13)=true:=by kernel_rfl
theorem printerRoundTrip_k12:(Rows.printerRoundTripUptoRow.named==Tryz.pinned.checked.prog.varsNamed 13)=true:=by kernel_rfl
theorem printerRoundTrip_k13:(Rows.printerRoundTripUptoRow.maps==(Tryz.f13.params.toList++(Rows.OpenSpec.upto Rows.printerRoundTripSpec).bare.plain.varTypes Tryz.pinned.checked.prog).any (Tryz.pinned.checked.prog.mapsRec ·))=true:=by kernel_rfl
theorem printerRoundTrip_k14:(Rows.printerRoundTripUptoRow.ifaces==(Tryz.f13.params.toList++(Rows.OpenSpec.upto Rows.printerRoundTripSpec).bare.plain.varTypes Tryz.pinned.checked.prog).any (Tryz.pinned.checked.prog.ifacesRec ·))=true:=by kernel_rfl
theorem printerRoundTrip_k15:(Rows.printerRoundTripUptoRow.mapsOut==Tryz.pinned.checked.prog.mapsAmong Tryz.f13.resultTypes.toList)=true:=by kernel_rfl
theorem printerRoundTrip_k16:(Rows.printerRoundTripUptoRow.loops==(Tryz.f13.params.toList++(Rows.OpenSpec.upto Rows.printerRoundTripSpec).bare.plain.varTypes Tryz.pinned.checked.prog).any (Tryz.pinned.checked.prog.loopsFrom ·))=true:=by kernel_rfl
theorem printerRoundTrip_k17:(Rows.printerRoundTripUptoRow.wideKeys==(Tryz.f13.params.toList++(Rows.OpenSpec.upto Rows.printerRoundTripSpec).bare.plain.varTypes Tryz.pinned.checked.prog++Tryz.f13.resultTypes.toList).any (Tryz.pinned.checked.prog.wideKeysFrom ·))=true:=by kernel_rfl
theorem printerRoundTrip_k18:((Rows.OpenSpec.upto Rows.printerRoundTripSpec).bare.vars.all (Tryz.pinned.checked.prog.varReadable ·))=true:=by kernel_rfl
theorem printerRoundTrip_k19:(Tryz.f13.resultTypes.all (fun t=>Tryz.pinned.checked.prog.readableRec t&&decide (t<Tryz.pinned.checked.prog.types.size)))=true:=by kernel_rfl
theorem printerRoundTrip_k20:(Rows.printerRoundTripUptoRow.ifacesOut==Tryz.f13.resultTypes.toList.any (Tryz.pinned.checked.prog.ifacesRec ·))=true:=by kernel_rfl
theorem printerRoundTrip_k21:(Rows.printerRoundTripUptoRow.loopsOut==Tryz.f13.resultTypes.toList.any (Tryz.pinned.checked.prog.loopsFrom ·))=true:=by kernel_rfl
theorem printerRoundTrip_k22:(Rows.printerRoundTripUptoRow.plainKeys==Tryz.pinned.checked.prog.plainKeys)=true:=by kernel_rfl
theorem printerRoundTrip_k23:(Rows.printerRoundTripUptoRow.shortTexts.isNone)=true:=by kernel_rfl
theorem printerRoundTrip_k24:(Tryz.pinned.checked.prog.stopsHeard)=true:=by kernel_rfl
theorem printerRoundTrip_k25:(Tryz.pinned.checked.prog.mayEnter)=true:=by kernel_rfl
theorem printerRoundTrip_k26:(Rows.printerRoundTripUptoRow.lifted==Tryz.pinned.checked.prog.liftsFinal)=true:=by kernel_rfl
theorem printerRoundTrip_k27:(Tryz.pinned.checked.prog.make==some Rows.printerRoundTripUptoRow.make)=true:=by kernel_rfl
theorem printerRoundTrip_k28:(Rows.printerRoundTripUptoRow.kinds==(if Rows.printerRoundTripUptoRow.domain.isEmpty then [] else Tryz.f13.params.toList.map fun t=>match Tryz.pinned.checked.prog.underlying t with | some (.int k)=>some k | _=>none))=true:=by kernel_rfl
theorem printerRoundTrip_k29:(Rows.printerRoundTripUptoRow.pinned==Rows.printerRoundTripUptoRow.pinnedBy)=true:=by kernel_rfl
theorem printerRoundTrip_k30:(Rows.printerRoundTripUptoRow.veiled==(Tryz.f13.params.toList++(Rows.OpenSpec.upto Rows.printerRoundTripSpec).bare.plain.varTypes Tryz.pinned.checked.prog++Tryz.f13.resultTypes.toList).any (Tryz.pinned.checked.prog.veiledRec ·))=true:=by kernel_rfl
theorem printerRoundTrip_k31:(Rows.printerRoundTripUptoRow.veiledFits Tryz.pinned.checked.prog Tryz.f13.params.toList (Tryz.f13.params.toList++(Rows.OpenSpec.upto Rows.printerRoundTripSpec).bare.plain.varTypes Tryz.pinned.checked.prog++Tryz.f13.resultTypes.toList))=true:=by kernel_rfl
set_option maxRecDepth 100000 in
theorem printerRoundTrip_closed:joinedFacts Tryz.pinned.checked.prog 13 Tryz.f13 (Rows.OpenSpec.upto Rows.printerRoundTripSpec).bare Rows.printerRoundTripUptoRow=true:=by
 unfold joinedFacts
 exact (printerRoundTrip_and (printerRoundTrip_and (printerRoundTrip_and (printerRoundTrip_and (printerRoundTrip_and (printerRoundTrip_and (printerRoundTrip_and (printerRoundTrip_and (printerRoundTrip_and (printerRoundTrip_and (printerRoundTrip_and (printerRoundTrip_and (printerRoundTrip_and (printerRoundTrip_and (printerRoundTrip_and (printerRoundTrip_and (printerRoundTrip_and (printerRoundTrip_and (printerRoundTrip_and (printerRoundTrip_and (printerRoundTrip_and (printerRoundTrip_and (printerRoundTrip_and (printerRoundTrip_and (printerRoundTrip_and (printerRoundTrip_and (printerRoundTrip_and (printerRoundTrip_and (printerRoundTrip_and (printerRoundTrip_and (printerRoundTrip_and printerRoundTrip_k0 printerRoundTrip_k1) printerRoundTrip_k2) printerRoundTrip_k3) printerRoundTrip_k4) printerRoundTrip_k5) printerRoundTrip_k6) printerRoundTrip_k7) printerRoundTrip_k8) printerRoundTrip_k9) printerRoundTrip_k10) printerRoundTrip_k11) printerRoundTrip_k12) printerRoundTrip_k13) printerRoundTrip_k14) printerRoundTrip_k15) printerRoundTrip_k16) printerRoundTrip_k17) printerRoundTrip_k18) printerRoundTrip_k19) printerRoundTrip_k20) printerRoundTrip_k21) printerRoundTrip_k22) printerRoundTrip_k23) printerRoundTrip_k24) printerRoundTrip_k25) printerRoundTrip_k26) printerRoundTrip_k27) printerRoundTrip_k28) printerRoundTrip_k29) printerRoundTrip_k30) printerRoundTrip_k31)

theorem printerRoundTrip_said:Rows.PrinterRoundTripUptoSaid :=
 OpenClaim.holds_of_cond 13 Tryz.f13 rfl rfl rfl rfl rfl rfl rfl ⟨rfl,rfl,rfl,rfl,rfl⟩ rfl rfl rfl rfl rfl (by kernel_rfl) Tryz.func13 printerRoundTrip_closed
  (of_decide_eq_true (by kernel_rfl)) (by unfold Func.isWrapper;first | (rw [if_pos (by decide +kernel)];kernel_rfl) | (rw [if_neg (by decide +kernel)];exact⟨rfl,rfl⟩))
  (fun os started H enc _ F=>by rw [OpenClaim.pre_eq_preRow];exact printerRoundTrip_lifted os started H enc F)
theorem printerRoundTrip_plain (f:FuncId) (fn:Func) (hf:Tryz.pinned.checked.prog.funcNamed "palmette/palmettelaw11.PrinterRoundTrip"=some f) (hfn:Tryz.pinned.checked.prog.funcs[f]?=some fn) :
  true=Tryz.pinned.checked.prog.looks []∧∀(j:Nat) t,fn.params[j]?=some t→Tryz.pinned.checked.prog.wantsStandIn t=false:=by
 obtain rfl:f=13:=Option.some.inj ((show Tryz.prog.funcNamed "palmette/palmettelaw11.PrinterRoundTrip"=some 13 by kernel_rfl).symm.trans hf) |>.symm
 obtain rfl:fn=Tryz.f13:=(Option.some.inj (Tryz.func13.symm.trans hfn)).symm
 refine⟨by kernel_rfl,fun j t ht=>?_⟩
 rw [Tryz.params13] at ht
 have hm:t∈[45]:=by simpa using Array.mem_of_getElem? ht
 simp only [List.mem_cons,List.not_mem_nil,or_false] at hm
 rcases hm with rfl
 ·exact (show Tryz.prog.wantsStandIn 45=false by kernel_rfl)

/-- the law's card -/
theorem printerRoundTrip:Rows.PrinterRoundTripUptoCardSaid :=
 Claim7.holds_tied_plain_at .later [] _ _ _ _ printerRoundTrip_said (fun _ h=>by cases h) (by kernel_rfl) (fun _ h=>by cases h) printerRoundTripUpto_row_tie rfl ⟨rfl,rfl⟩ (by kernel_rfl) rfl printerRoundTrip_plain (by kernel_rfl)
end Go.Proofs.YtkhbpebpljdifaaGreatDoor
