/- PrinterTree: Tree returns the specified tree form, or the specified error. Conditions: the row of its statement (tables and errors of the standard library read as their texts lay them; the arguments are together of bulk at most 1048576). -/
import Derived.Test.YtkhbpebpljdifaaGreatDoorMProG
import Derived.Deep.DeepWitnessRowRef
namespace Go.Proofs.YtkhbpebpljdifaaGreatDoor
open Go.ChangeShapes Go.WideShapes Go.ChangeAt Go.RowKit Go.PL Go.Deep
open Go.ChangeMaps (open_string)

theorem bulk_app {H:Type} (a b:List (DataW H)):Rows.uptoBulkAll (a++b)=Rows.uptoBulkAll a+Rows.uptoBulkAll b:=by
 induction a with
 | nil=>simp [Rows.uptoBulkAll]
 | cons x xs ih=>simp only [List.cons_append,Rows.uptoBulkAll,ih];omega
/-- A world for the witness: the settled one, the tables holding what their initialisers lay. -/
noncomputable def printerTree_laidWorld (os:Os):World:=World.laidAll Tryz.prog os Rows.printerTreeUptoRow.laid
theorem printerTree_laidWorld_os (os:Os):(printerTree_laidWorld os).os=os:=World.laidAll_os _ _ _
theorem printerTree_laid_met (os:Os) (args:Array Value):laidMet Tryz.prog Rows.printerTreeUptoRow.laid ((printerTree_laidWorld os).forCall (fun _ _=>0) ⟨#[],args,[]⟩).memory :=
 laidMet_laidAll args (by kernel_rfl) (by kernel_rfl)

set_option maxRecDepth 100000 in
theorem printerTree_contract (H:Type) (enc:TypeId×Value→H) (W:World) (base:Nat) (args:Array Value) (ds gs:List (DataW H)) (before:List MemPlace)
  (hval:∀(j:Nat) t v,Tryz.f15.params[j]?=some t→args[j]?=some v→Value.okWide Tryz.prog W .any base t v)
  (hW:DataW.Whole enc Tryz.prog Tryz.f15.params.toList Rows.printerTreeSpec.vars false W args.toList ds gs before) (hL:laidMetH Tryz.prog Rows.printerTreeUptoRow.laid W) (hk:Rows.uptoBulkAll (ds++gs)≤1048576) :
  Calls Tryz.prog 15 args W fun e W'=>∃v,e=.returned v∧Rows.printerTreeSpec.post enc Tryz.prog Tryz.f15 false true false false W args v W':=by
 rw [MakeChecks.laidMetH_plain _ _ _ (by kernel_rfl)] at hL
 have hE:=(⟨env_of hL (by kernel_rfl) (by kernel_rfl),senv_of hL (by kernel_rfl),fenv_of hL (by kernel_rfl),penv_of hL (by kernel_rfl) (by kernel_rfl)⟩:Env W∧SEnv W∧FEnv W∧PEnv W)
 have hW':=hW
 obtain⟨p,q,hA0,hV,rfl,hfz,hnd⟩:=hW
 have hA:DataW.TrodAll enc Tryz.prog W 0 (fun _=>true) true Tryz.f15.params.toList args.toList ds p:=hA0
 rw [Tryz.params15] at hA hval
 obtain⟨v0,vs0,d0,ds0,p0,q0,hargs,rfl,rfl,h0,r0⟩:=trodAll_cons hA
 obtain⟨rfl,rfl,rfl⟩:=trodAll_nil r0
 simp only [bulk_app,Rows.uptoBulkAll] at hk
 obtain rfl:args=#[v0]:=by cases args;simp_all
 have walk:Calls Tryz.prog 15 #[v0] W fun e w'=>e=.returned (.bool true)∧Upto [] W w':=by
  obtain⟨qq0,hq0⟩:=kSz (okWide_struct Tryz.underlying45 (hval 0 45 v0 rfl rfl)) h0 (by omega)
  exact printerTree_walk qq0 v0 W hq0 hE
 exact walk.mono fun e W' ⟨he,hu⟩=>⟨_,he,post_true (hv:=rfl) (by kernel_rfl) (by kernel_rfl) (by kernel_rfl) hW' (fun _=>rfl) hu⟩

set_option maxRecDepth 100000 in
theorem printerTree_reads (os:Os) {H:Type} (enc:TypeId×Value→H):∃places,DataW.whole enc Tryz.prog ((printerTree_laidWorld os).forCall (fun _ _=>0) ⟨#[],#[.agg #[.slice none 0 0,.int .i64 0,.slice none 0 0,.int .i64 0,.int .i64 0,.int .i64 0,.slice none 0 0]],[]⟩).memory Tryz.f15.params.toList Rows.printerTreeSpec.vars false #[.agg #[.slice none 0 0,.int .i64 0,.slice none 0 0,.int .i64 0,.int .i64 0,.int .i64 0,.slice none 0 0]].toList 8=some ([.agg [.nil,.agg [.lit (.int .i64 0),.nil,.lit (.int .i64 0),.lit (.int .i64 0),.lit (.int .i64 0),.nil]]],[],places) :=
 ⟨[],by kernel_rfl⟩
set_option maxRecDepth 100000 in
theorem printerTree_lifted (os:Os) (started:os.Started) (H:Type) (enc:TypeId×Value→H) (F:Stop.Interp) :
  ReturnsInHanded {} Tryz.checked os 15 .any ((Rows.OpenSpec.upto Rows.printerTreeSpec).preRow enc Tryz.prog Tryz.f15 Rows.printerTreeUptoRow.domain false Rows.printerTreeUptoRow.laid) (((Rows.OpenSpec.upto Rows.printerTreeSpec).at F).post enc Tryz.prog Tryz.f15 false true false false):=by
 obtain⟨places,hx⟩:=printerTree_reads os enc
 refine returnsInHanded_of_row (C:=Tryz.checked) (s:=(Rows.OpenSpec.upto Rows.printerTreeSpec)) own started (by kernel_rfl) Tryz.func15
  (witness_row_atRef (enc:=enc) (C:=Tryz.checked) false (printerTree_laidWorld os) #[.agg #[.slice none 0 0,.int .i64 0,.slice none 0 0,.int .i64 0,.int .i64 0,.int .i64 0,.slice none 0 0]] (printerTree_laidWorld_os os) (by kernel_rfl) (by kernel_rfl) (by kernel_rfl)
   (OpenSpec.preRow_of_cond 8 hx (by kernel_rfl) (fun k hk=>by cases hk;kernel_rfl) (by kernel_rfl) (printerTree_laid_met os _))) ?_
 intro W base args ds gs before hval hW _ hcond _ hL _ _
 exact printerTree_contract H enc W base args ds gs before hval hW hL (of_decide_eq_true (hcond _ rfl))

theorem printerTree_and {a b:Bool} (h:a=true) (k:b=true):(a&&b)=true:=by rw [h,k];rfl
theorem printerTree_k0:(Rows.printerTreeUptoRow.wf (OpenSpec.ofChange (Rows.OpenSpec.upto Rows.printerTreeSpec).bare))=true:=by kernel_rfl
theorem printerTree_k1:(laidOutB Tryz.pinned.checked.prog)=true:=by kernel_rfl
theorem printerTree_k2:(mapsRowed Tryz.pinned.checked.prog)=true:=by kernel_rfl
theorem printerTree_k3:(Tryz.f15.params.all (Tryz.pinned.checked.prog.readableRec ·))=true:=by kernel_rfl
theorem printerTree_k4:(namedTie Tryz.pinned.checked.prog Rows.printerTreeUptoRow.named (Rows.OpenSpec.upto Rows.printerTreeSpec).bare.vars)=true:=by kernel_rfl
theorem printerTree_k5:(Rows.printerTreeUptoRow.stops==[])=true:=by kernel_rfl
theorem printerTree_k6:(Tryz.pinned.checked.prog.stops==[])=true:=by kernel_rfl
theorem printerTree_k7:(Rows.printerTreeUptoRow.knobs==[])=true:=by kernel_rfl
theorem printerTree_k8:(Tryz.pinned.checked.prog.stopKnobs==[])=true:=by kernel_rfl
theorem printerTree_k9:(Rows.printerTreeUptoRow.inPlace==Tryz.pinned.checked.prog.inPlace 15)=true:=by kernel_rfl
theorem printerTree_k10:(Rows.printerTreeUptoRow.unfollowed==Tryz.pinned.checked.prog.unfollowed 15)=true:=by kernel_rfl
theorem printerTree_k11:(Rows.printerTreeUptoRow.recurses==Tryz.pinned.checked.prog.recurses 15)=true:=by kernel_rfl
theorem printerTree_k12:(Rows.printerTreeUptoRow.named==Tryz.pinned.checked.prog.varsNamed 15)=true:=by kernel_rfl
theorem printerTree_k13:(Rows.printerTreeUptoRow.maps==(Tryz.f15.params.toList++(Rows.OpenSpec.upto Rows.printerTreeSpec).bare.plain.varTypes Tryz.pinned.checked.prog).any (Tryz.pinned.checked.prog.mapsRec ·))=true:=by kernel_rfl
theorem printerTree_k14:(Rows.printerTreeUptoRow.ifaces==(Tryz.f15.params.toList++(Rows.OpenSpec.upto Rows.printerTreeSpec).bare.plain.varTypes Tryz.pinned.checked.prog).any (Tryz.pinned.checked.prog.ifacesRec ·))=true:=by kernel_rfl
theorem printerTree_k15:(Rows.printerTreeUptoRow.mapsOut==Tryz.pinned.checked.prog.mapsAmong Tryz.f15.resultTypes.toList)=true:=by kernel_rfl
theorem printerTree_k16:(Rows.printerTreeUptoRow.loops==(Tryz.f15.params.toList++(Rows.OpenSpec.upto Rows.printerTreeSpec).bare.plain.varTypes Tryz.pinned.checked.prog).any (Tryz.pinned.checked.prog.loopsFrom ·))=true:=by kernel_rfl
theorem printerTree_k17:(Rows.printerTreeUptoRow.wideKeys==(Tryz.f15.params.toList++(Rows.OpenSpec.upto Rows.printerTreeSpec).bare.plain.varTypes Tryz.pinned.checked.prog++Tryz.f15.resultTypes.toList).any (Tryz.pinned.checked.prog.wideKeysFrom ·))=true:=by kernel_rfl
theorem printerTree_k18:((Rows.OpenSpec.upto Rows.printerTreeSpec).bare.vars.all (Tryz.pinned.checked.prog.varReadable ·))=true:=by kernel_rfl
theorem printerTree_k19:(Tryz.f15.resultTypes.all (fun t=>Tryz.pinned.checked.prog.readableRec t&&decide (t<Tryz.pinned.checked.prog.types.size)))=true:=by kernel_rfl
theorem printerTree_k20:(Rows.printerTreeUptoRow.ifacesOut==Tryz.f15.resultTypes.toList.any (Tryz.pinned.checked.prog.ifacesRec ·))=true:=by kernel_rfl
theorem printerTree_k21:(Rows.printerTreeUptoRow.loopsOut==Tryz.f15.resultTypes.toList.any (Tryz.pinned.checked.prog.loopsFrom ·))=true:=by kernel_rfl
theorem printerTree_k22:(Rows.printerTreeUptoRow.plainKeys==Tryz.pinned.checked.prog.plainKeys)=true:=by kernel_rfl
theorem printerTree_k23:(Rows.printerTreeUptoRow.shortTexts.isNone)=true:=by kernel_rfl
theorem printerTree_k24:(Tryz.pinned.checked.prog.stopsHeard)=true:=by kernel_rfl
theorem printerTree_k25:(Tryz.pinned.checked.prog.mayEnter)=true:=by kernel_rfl
theorem printerTree_k26:(Rows.printerTreeUptoRow.lifted==Tryz.pinned.checked.prog.liftsFinal)=true:=by kernel_rfl
theorem printerTree_k27:(Tryz.pinned.checked.prog.make==some Rows.printerTreeUptoRow.make)=true:=by kernel_rfl
theorem printerTree_k28:(Rows.printerTreeUptoRow.kinds==(if Rows.printerTreeUptoRow.domain.isEmpty then [] else Tryz.f15.params.toList.map fun t=>match Tryz.pinned.checked.prog.underlying t with | some (.int k)=>some k | _=>none))=true:=by kernel_rfl
theorem printerTree_k29:(Rows.printerTreeUptoRow.pinned==Rows.printerTreeUptoRow.pinnedBy)=true:=by kernel_rfl
theorem printerTree_k30:(Rows.printerTreeUptoRow.veiled==(Tryz.f15.params.toList++(Rows.OpenSpec.upto Rows.printerTreeSpec).bare.plain.varTypes Tryz.pinned.checked.prog++Tryz.f15.resultTypes.toList).any (Tryz.pinned.checked.prog.veiledRec ·))=true:=by kernel_rfl
theorem printerTree_k31:(Rows.printerTreeUptoRow.veiledFits Tryz.pinned.checked.prog Tryz.f15.params.toList (Tryz.f15.params.toList++(Rows.OpenSpec.upto Rows.printerTreeSpec).bare.plain.varTypes Tryz.pinned.checked.prog++Tryz.f15.resultTypes.toList))=true:=by kernel_rfl
set_option maxRecDepth 100000 in
theorem printerTree_closed:joinedFacts Tryz.pinned.checked.prog 15 Tryz.f15 (Rows.OpenSpec.upto Rows.printerTreeSpec).bare Rows.printerTreeUptoRow=true:=by
 unfold joinedFacts
 exact (printerTree_and (printerTree_and (printerTree_and (printerTree_and (printerTree_and (printerTree_and (printerTree_and (printerTree_and (printerTree_and (printerTree_and (printerTree_and (printerTree_and (printerTree_and (printerTree_and (printerTree_and (printerTree_and (printerTree_and (printerTree_and (printerTree_and (printerTree_and (printerTree_and (printerTree_and (printerTree_and (printerTree_and (printerTree_and (printerTree_and (printerTree_and (printerTree_and (printerTree_and (printerTree_and (printerTree_and printerTree_k0 printerTree_k1) printerTree_k2) printerTree_k3) printerTree_k4) printerTree_k5) printerTree_k6) printerTree_k7) printerTree_k8) printerTree_k9) printerTree_k10) printerTree_k11) printerTree_k12) printerTree_k13) printerTree_k14) printerTree_k15) printerTree_k16) printerTree_k17) printerTree_k18) printerTree_k19) printerTree_k20) printerTree_k21) printerTree_k22) printerTree_k23) printerTree_k24) printerTree_k25) printerTree_k26) printerTree_k27) printerTree_k28) printerTree_k29) printerTree_k30) printerTree_k31)

theorem printerTree_said:Rows.PrinterTreeUptoSaid :=
 OpenClaim.holds_of_cond 15 Tryz.f15 rfl rfl rfl rfl rfl rfl rfl ⟨rfl,rfl,rfl,rfl,rfl⟩ rfl rfl rfl rfl rfl (by kernel_rfl) Tryz.func15 printerTree_closed
  (of_decide_eq_true (by kernel_rfl)) (by unfold Func.isWrapper;first | (rw [if_pos (by decide +kernel)];kernel_rfl) | (rw [if_neg (by decide +kernel)];exact⟨rfl,rfl⟩))
  (fun os started H enc _ F=>by rw [OpenClaim.pre_eq_preRow];exact printerTree_lifted os started H enc F)
theorem printerTree_plain (f:FuncId) (fn:Func) (hf:Tryz.pinned.checked.prog.funcNamed "palmette/palmettelaw11.PrinterTree"=some f) (hfn:Tryz.pinned.checked.prog.funcs[f]?=some fn) :
  true=Tryz.pinned.checked.prog.looks []∧∀(j:Nat) t,fn.params[j]?=some t→Tryz.pinned.checked.prog.wantsStandIn t=false:=by
 obtain rfl:f=15:=Option.some.inj ((show Tryz.prog.funcNamed "palmette/palmettelaw11.PrinterTree"=some 15 by kernel_rfl).symm.trans hf) |>.symm
 obtain rfl:fn=Tryz.f15:=(Option.some.inj (Tryz.func15.symm.trans hfn)).symm
 refine⟨by kernel_rfl,fun j t ht=>?_⟩
 rw [Tryz.params15] at ht
 have hm:t∈[45]:=by simpa using Array.mem_of_getElem? ht
 simp only [List.mem_cons,List.not_mem_nil,or_false] at hm
 rcases hm with rfl
 ·exact (show Tryz.prog.wantsStandIn 45=false by kernel_rfl)

/-- the law's card -/
theorem printerTree:Rows.PrinterTreeUptoCardSaid :=
 Claim7.holds_tied_plain_at .later [] _ _ _ _ printerTree_said (fun _ h=>by cases h) (by kernel_rfl) (fun _ h=>by cases h) printerTreeUpto_row_tie rfl ⟨rfl,rfl⟩ (by kernel_rfl) rfl printerTree_plain (by kernel_rfl)
end Go.Proofs.YtkhbpebpljdifaaGreatDoor
