/- PrinterPrint: Print and Node return the specified text of every question and formula, or the specified error. Conditions: the row of its statement (tables and errors of the standard library read as their texts lay them; the arguments are together of bulk at most 1048576). -/
import Derived.Test.YtkhbpebpljdifaaGreatDoorMProA
import Derived.Deep.DeepWitnessRowRef
namespace Go.Proofs.YtkhbpebpljdifaaGreatDoor
open Go.ChangeShapes Go.WideShapes Go.ChangeAt Go.RowKit Go.PL Go.Deep
open Go.ChangeMaps (open_string)

theorem bulk_app {H:Type} (a b:List (DataW H)):Rows.uptoBulkAll (a++b)=Rows.uptoBulkAll a+Rows.uptoBulkAll b:=by
 induction a with
 | nil=>simp [Rows.uptoBulkAll]
 | cons x xs ih=>simp only [List.cons_append,Rows.uptoBulkAll,ih];omega
/-- A world for the witness: the settled one, the tables holding what their initialisers lay. -/
noncomputable def printerPrint_laidWorld (os:Os):World:=World.laidAll Tryz.prog os Rows.printerPrintUptoRow.laid
theorem printerPrint_laidWorld_os (os:Os):(printerPrint_laidWorld os).os=os:=World.laidAll_os _ _ _
theorem printerPrint_laid_met (os:Os) (args:Array Value):laidMet Tryz.prog Rows.printerPrintUptoRow.laid ((printerPrint_laidWorld os).forCall (fun _ _=>0) ⟨#[],args,[]⟩).memory :=
 laidMet_laidAll args (by kernel_rfl) (by kernel_rfl)

set_option maxRecDepth 100000 in
theorem printerPrint_contract (H:Type) (enc:TypeId×Value→H) (W:World) (base:Nat) (args:Array Value) (ds gs:List (DataW H)) (before:List MemPlace)
  (hval:∀(j:Nat) t v,Tryz.f9.params[j]?=some t→args[j]?=some v→Value.okWide Tryz.prog W .any base t v)
  (hW:DataW.Whole enc Tryz.prog Tryz.f9.params.toList Rows.printerPrintSpec.vars false W args.toList ds gs before) (hL:laidMetH Tryz.prog Rows.printerPrintUptoRow.laid W) (hk:Rows.uptoBulkAll (ds++gs)≤1048576) :
  Calls Tryz.prog 9 args W fun e W'=>∃v,e=.returned v∧Rows.printerPrintSpec.post enc Tryz.prog Tryz.f9 false true false false W args v W':=by
 rw [MakeChecks.laidMetH_plain _ _ _ (by kernel_rfl)] at hL
 have hE:=(⟨env_of hL (by kernel_rfl) (by kernel_rfl),senv_of hL (by kernel_rfl),fenv_of hL (by kernel_rfl),penv_of hL (by kernel_rfl) (by kernel_rfl)⟩:Env W∧SEnv W∧FEnv W∧PEnv W)
 have hW':=hW
 obtain⟨p,q,hA0,hV,rfl,hfz,hnd⟩:=hW
 have hA:DataW.TrodAll enc Tryz.prog W 0 (fun _=>true) true Tryz.f9.params.toList args.toList ds p:=hA0
 rw [Tryz.params9] at hA hval
 obtain⟨v0,vs0,d0,ds0,p0,q0,hargs,rfl,rfl,h0,r0⟩:=trodAll_cons hA
 obtain⟨rfl,rfl,rfl⟩:=trodAll_nil r0
 simp only [bulk_app,Rows.uptoBulkAll] at hk
 obtain rfl:args=#[v0]:=by cases args;simp_all
 have walk:Calls Tryz.prog 9 #[v0] W fun e w'=>e=.returned (.bool true)∧Upto [] W w':=by
  obtain⟨qq0,hq0⟩:=kSz (okWide_struct Tryz.underlying45 (hval 0 45 v0 rfl rfl)) h0 (by omega)
  exact printerPrint_walk qq0 v0 W hq0 hE
 exact walk.mono fun e W' ⟨he,hu⟩=>⟨_,he,post_true (hv:=rfl) (by kernel_rfl) (by kernel_rfl) (by kernel_rfl) hW' (fun _=>rfl) hu⟩

set_option maxRecDepth 100000 in
theorem printerPrint_reads (os:Os) {H:Type} (enc:TypeId×Value→H):∃places,DataW.whole enc Tryz.prog ((printerPrint_laidWorld os).forCall (fun _ _=>0) ⟨#[],#[.agg #[.slice none 0 0,.int .i64 0,.slice none 0 0,.int .i64 0,.int .i64 0,.int .i64 0,.slice none 0 0]],[]⟩).memory Tryz.f9.params.toList Rows.printerPrintSpec.vars false #[.agg #[.slice none 0 0,.int .i64 0,.slice none 0 0,.int .i64 0,.int .i64 0,.int .i64 0,.slice none 0 0]].toList 8=some ([.agg [.nil,.agg [.lit (.int .i64 0),.nil,.lit (.int .i64 0),.lit (.int .i64 0),.lit (.int .i64 0),.nil]]],[],places) :=
 ⟨[],by kernel_rfl⟩
set_option maxRecDepth 100000 in
theorem printerPrint_lifted (os:Os) (started:os.Started) (H:Type) (enc:TypeId×Value→H) (F:Stop.Interp) :
  ReturnsInHanded {} Tryz.checked os 9 .any ((Rows.OpenSpec.upto Rows.printerPrintSpec).preRow enc Tryz.prog Tryz.f9 Rows.printerPrintUptoRow.domain false Rows.printerPrintUptoRow.laid) (((Rows.OpenSpec.upto Rows.printerPrintSpec).at F).post enc Tryz.prog Tryz.f9 false true false false):=by
 obtain⟨places,hx⟩:=printerPrint_reads os enc
 refine returnsInHanded_of_row (C:=Tryz.checked) (s:=(Rows.OpenSpec.upto Rows.printerPrintSpec)) own started (by kernel_rfl) Tryz.func9
  (witness_row_atRef (enc:=enc) (C:=Tryz.checked) false (printerPrint_laidWorld os) #[.agg #[.slice none 0 0,.int .i64 0,.slice none 0 0,.int .i64 0,.int .i64 0,.int .i64 0,.slice none 0 0]] (printerPrint_laidWorld_os os) (by kernel_rfl) (by kernel_rfl) (by kernel_rfl)
   (OpenSpec.preRow_of_cond 8 hx (by kernel_rfl) (fun k hk=>by cases hk;kernel_rfl) (by kernel_rfl) (printerPrint_laid_met os _))) ?_
 intro W base args ds gs before hval hW _ hcond _ hL _ _
 exact printerPrint_contract H enc W base args ds gs before hval hW hL (of_decide_eq_true (hcond _ rfl))

theorem printerPrint_and {a b:Bool} (h:a=true) (k:b=true):(a&&b)=true:=by rw [h,k];rfl
theorem printerPrint_k0:(Rows.printerPrintUptoRow.wf (OpenSpec.ofChange (Rows.OpenSpec.upto Rows.printerPrintSpec).bare))=true:=by kernel_rfl
theorem printerPrint_k1:(laidOutB Tryz.pinned.checked.prog)=true:=by kernel_rfl
theorem printerPrint_k2:(mapsRowed Tryz.pinned.checked.prog)=true:=by kernel_rfl
theorem printerPrint_k3:(Tryz.f9.params.all (Tryz.pinned.checked.prog.readableRec ·))=true:=by kernel_rfl
theorem printerPrint_k4:(namedTie Tryz.pinned.checked.prog Rows.printerPrintUptoRow.named (Rows.OpenSpec.upto Rows.printerPrintSpec).bare.vars)=true:=by kernel_rfl
theorem printerPrint_k5:(Rows.printerPrintUptoRow.stops==[])=true:=by kernel_rfl
theorem printerPrint_k6:(Tryz.pinned.checked.prog.stops==[])=true:=by kernel_rfl
theorem printerPrint_k7:(Rows.printerPrintUptoRow.knobs==[])=true:=by kernel_rfl
theorem printerPrint_k8:(Tryz.pinned.checked.prog.stopKnobs==[])=true:=by kernel_rfl
theorem printerPrint_k9:(Rows.printerPrintUptoRow.inPlace==Tryz.pinned.checked.prog.inPlace 9)=true:=by kernel_rfl
theorem printerPrint_k10:(Rows.printerPrintUptoRow.unfollowed==Tryz.pinned.checked.prog.unfollowed 9)=true:=by kernel_rfl
theorem printerPrint_k11:(Rows.printerPrintUptoRow.recurses==Tryz.pinned.checked.prog.recurses 9)=true:=by kernel_rfl
theorem printerPrint_k12:(Rows.printerPrintUptoRow.named==Tryz.pinned.checked.prog.varsNamed 9)=true:=by kernel_rfl
theorem printerPrint_k13:(Rows.printerPrintUptoRow.maps==(Tryz.f9.params.toList++(Rows.OpenSpec.upto Rows.printerPrintSpec).bare.plain.varTypes Tryz.pinned.checked.prog).any (Tryz.pinned.checked.prog.mapsRec ·))=true:=by kernel_rfl
theorem printerPrint_k14:(Rows.printerPrintUptoRow.ifaces==(Tryz.f9.params.toList++(Rows.OpenSpec.upto Rows.printerPrintSpec).bare.plain.varTypes Tryz.pinned.checked.prog).any (Tryz.pinned.checked.prog.ifacesRec ·))=true:=by kernel_rfl
theorem printerPrint_k15:(Rows.printerPrintUptoRow.mapsOut==Tryz.pinned.checked.prog.mapsAmong Tryz.f9.resultTypes.toList)=true:=by kernel_rfl
theorem printerPrint_k16:(Rows.printerPrintUptoRow.loops==(Tryz.f9.params.toList++(Rows.OpenSpec.upto Rows.printerPrintSpec).bare.plain.varTypes Tryz.pinned.checked.prog).any (Tryz.pinned.checked.prog.loopsFrom ·))=true:=by kernel_rfl
theorem printerPrint_k17:(Rows.printerPrintUptoRow.wideKeys==(Tryz.f9.params.toList++(Rows.OpenSpec.upto Rows.printerPrintSpec).bare.plain.varTypes Tryz.pinned.checked.prog++Tryz.f9.resultTypes.toList).any (Tryz.pinned.checked.prog.wideKeysFrom ·))=true:=by kernel_rfl
theorem printerPrint_k18:((Rows.OpenSpec.upto Rows.printerPrintSpec).bare.vars.all (Tryz.pinned.checked.prog.varReadable ·))=true:=by kernel_rfl
theorem printerPrint_k19:(Tryz.f9.resultTypes.all (fun t=>Tryz.pinned.checked.prog.readableRec t&&decide (t<Tryz.pinned.checked.prog.types.size)))=true:=by kernel_rfl
theorem printerPrint_k20:(Rows.printerPrintUptoRow.ifacesOut==Tryz.f9.resultTypes.toList.any (Tryz.pinned.checked.prog.ifacesRec ·))=true:=by kernel_rfl
theorem printerPrint_k21:(Rows.printerPrintUptoRow.loopsOut==Tryz.f9.resultTypes.toList.any (Tryz.pinned.checked.prog.loopsFrom ·))=true:=by kernel_rfl
theorem printerPrint_k22:(Rows.printerPrintUptoRow.plainKeys==Tryz.pinned.checked.prog.plainKeys)=true:=by kernel_rfl
theorem printerPrint_k23:(Rows.printerPrintUptoRow.shortTexts.isNone)=true:=by kernel_rfl
theorem printerPrint_k24:(Tryz.pinned.checked.prog.stopsHeard)=true:=by kernel_rfl
theorem printerPrint_k25:(Tryz.pinned.checked.prog.mayEnter)=true:=by kernel_rfl
theorem printerPrint_k26:(Rows.printerPrintUptoRow.lifted==Tryz.pinned.checked.prog.liftsFinal)=true:=by kernel_rfl
theorem printerPrint_k27:(Tryz.pinned.checked.prog.make==some Rows.printerPrintUptoRow.make)=true:=by kernel_rfl
theorem printerPrint_k28:(Rows.printerPrintUptoRow.kinds==(if Rows.printerPrintUptoRow.domain.isEmpty then [] else Tryz.f9.params.toList.map fun t=>match Tryz.pinned.checked.prog.underlying t with | some (.int k)=>some k | _=>none))=true:=by kernel_rfl
theorem printerPrint_k29:(Rows.printerPrintUptoRow.pinned==Rows.printerPrintUptoRow.pinnedBy)=true:=by kernel_rfl
theorem printerPrint_k30:(Rows.printerPrintUptoRow.veiled==(Tryz.f9.params.toList++(Rows.OpenSpec.upto Rows.printerPrintSpec).bare.plain.varTypes Tryz.pinned.checked.prog++Tryz.f9.resultTypes.toList).any (Tryz.pinned.checked.prog.veiledRec ·))=true:=by kernel_rfl
theorem printerPrint_k31:(Rows.printerPrintUptoRow.veiledFits Tryz.pinned.checked.prog Tryz.f9.params.toList (Tryz.f9.params.toList++(Rows.OpenSpec.upto Rows.printerPrintSpec).bare.plain.varTypes Tryz.pinned.checked.prog++Tryz.f9.resultTypes.toList))=true:=by kernel_rfl
set_option maxRecDepth 100000 in
theorem printerPrint_closed:joinedFacts Tryz.pinned.checked.prog 9 Tryz.f9 (Rows.OpenSpec.upto Rows.printerPrintSpec).bare Rows.printerPrintUptoRow=true:=by
 unfold joinedFacts
 exact (printerPrint_and (printerPrint_and (printerPrint_and (printerPrint_and (printerPrint_and (printerPrint_and (printerPrint_and (printerPrint_and (printerPrint_and (printerPrint_and (printerPrint_and (printerPrint_and (printerPrint_and (printerPrint_and (printerPrint_and (printerPrint_and (printerPrint_and (printerPrint_and (printerPrint_and (printerPrint_and (printerPrint_and (printerPrint_and (printerPrint_and (printerPrint_and (printerPrint_and (printerPrint_and (printerPrint_and (printerPrint_and (printerPrint_and (printerPrint_and (printerPrint_and printerPrint_k0 printerPrint_k1) printerPrint_k2) printerPrint_k3) printerPrint_k4) printerPrint_k5) printerPrint_k6) printerPrint_k7) printerPrint_k8) printerPrint_k9) printerPrint_k10) printerPrint_k11) printerPrint_k12) printerPrint_k13) printerPrint_k14) printerPrint_k15) printerPrint_k16) printerPrint_k17) printerPrint_k18) printerPrint_k19) printerPrint_k20) printerPrint_k21) printerPrint_k22) printerPrint_k23) printerPrint_k24) printerPrint_k25) printerPrint_k26) printerPrint_k27) printerPrint_k28) printerPrint_k29) printerPrint_k30) printerPrint_k31)

theorem printerPrint_said:Rows.PrinterPrintUptoSaid :=
 OpenClaim.holds_of_cond 9 Tryz.f9 rfl rfl rfl rfl rfl rfl rfl ⟨rfl,rfl,rfl,rfl,rfl⟩ rfl rfl rfl rfl rfl (by kernel_rfl) Tryz.func9 printerPrint_closed
  (of_decide_eq_true (by kernel_rfl)) (by unfold Func.isWrapper;first | (rw [if_pos (by decide +kernel)];kernel_rfl) | (rw [if_neg (by decide +kernel)];exact⟨rfl,rfl⟩))
  (fun os started H enc _ F=>by rw [OpenClaim.pre_eq_preRow];exact printerPrint_lifted os started H enc F)
theorem printerPrint_plain (f:FuncId) (fn:Func) (hf:Tryz.pinned.checked.prog.funcNamed "palmette/palmettelaw11.PrinterPrint"=some f) (hfn:Tryz.pinned.checked.prog.funcs[f]?=some fn) :
  true=Tryz.pinned.checked.prog.looks []∧∀(j:Nat) t,fn.params[j]?=some t→Tryz.pinned.checked.prog.wantsStandIn t=false:=by
 obtain rfl:f=9:=Option.some.inj ((show Tryz.prog.funcNamed "palmette/palmettelaw11.PrinterPrint"=some 9 by kernel_rfl).symm.trans hf) |>.symm
 obtain rfl:fn=Tryz.f9:=(Option.some.inj (Tryz.func9.symm.trans hfn)).symm
 refine⟨by kernel_rfl,fun j t ht=>?_⟩
 rw [Tryz.params9] at ht
 have hm:t∈[45]:=by simpa using Array.mem_of_getElem? ht
 simp only [List.mem_cons,List.not_mem_nil,or_false] at hm
 rcases hm with rfl
 ·exact (show Tryz.prog.wantsStandIn 45=false by kernel_rfl)

/-- the law's card -/
theorem printerPrint:Rows.PrinterPrintUptoCardSaid :=
 Claim7.holds_tied_plain_at .later [] _ _ _ _ printerPrint_said (fun _ h=>by cases h) (by kernel_rfl) (fun _ h=>by cases h) printerPrintUpto_row_tie rfl ⟨rfl,rfl⟩ (by kernel_rfl) rfl printerPrint_plain (by kernel_rfl)
end Go.Proofs.YtkhbpebpljdifaaGreatDoor
