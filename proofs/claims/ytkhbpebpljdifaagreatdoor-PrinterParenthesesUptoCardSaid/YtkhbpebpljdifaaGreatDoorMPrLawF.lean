/- PrinterParentheses: no pair of parentheses in the printed form, except those of a macro call, can be omitted without changing or invalidating the question. Conditions: the row of its statement (tables and errors of the standard library read as their texts lay them; the arguments are together of bulk at most 1048576). -/
import Derived.Test.YtkhbpebpljdifaaGreatDoorMProF
import Derived.Deep.DeepWitnessRowRef
namespace Go.Proofs.YtkhbpebpljdifaaGreatDoor
open Go.ChangeShapes Go.WideShapes Go.ChangeAt Go.RowKit Go.PL Go.Deep
open Go.ChangeMaps (open_string)

theorem bulk_app {H:Type} (a b:List (DataW H)):Rows.uptoBulkAll (a++b)=Rows.uptoBulkAll a+Rows.uptoBulkAll b:=by
 induction a with
 | nil=>simp [Rows.uptoBulkAll]
 | cons x xs ih=>simp only [List.cons_append,Rows.uptoBulkAll,ih];omega
/-- A world for the witness: the settled one, the tables holding what their initialisers lay. -/
noncomputable def printerParentheses_laidWorld (os:Os):World:=World.laidAll Tryz.prog os Rows.printerParenthesesUptoRow.laid
theorem printerParentheses_laidWorld_os (os:Os):(printerParentheses_laidWorld os).os=os:=World.laidAll_os _ _ _
theorem printerParentheses_laid_met (os:Os) (args:Array Value):laidMet Tryz.prog Rows.printerParenthesesUptoRow.laid ((printerParentheses_laidWorld os).forCall (fun _ _=>0) ⟨#[],args,[]⟩).memory :=
 laidMet_laidAll args (by kernel_rfl) (by kernel_rfl)

set_option maxRecDepth 100000 in
theorem printerParentheses_contract (H:Type) (enc:TypeId×Value→H) (W:World) (base:Nat) (args:Array Value) (ds gs:List (DataW H)) (before:List MemPlace)
  (hval:∀(j:Nat) t v,Tryz.f14.params[j]?=some t→args[j]?=some v→Value.okWide Tryz.prog W .any base t v)
  (hW:DataW.Whole enc Tryz.prog Tryz.f14.params.toList Rows.printerParenthesesSpec.vars false W args.toList ds gs before) (hL:laidMetH Tryz.prog Rows.printerParenthesesUptoRow.laid W) (hk:Rows.uptoBulkAll (ds++gs)≤1048576) :
  Calls Tryz.prog 14 args W fun e W'=>∃v,e=.returned v∧Rows.printerParenthesesSpec.post enc Tryz.prog Tryz.f14 false true false false W args v W':=by
 rw [MakeChecks.laidMetH_plain _ _ _ (by kernel_rfl)] at hL
 have hE:=(⟨env_of hL (by kernel_rfl) (by kernel_rfl),senv_of hL (by kernel_rfl),fenv_of hL (by kernel_rfl),penv_of hL (by kernel_rfl) (by kernel_rfl)⟩:Env W∧SEnv W∧FEnv W∧PEnv W)
 have hW':=hW
 obtain⟨p,q,hA0,hV,rfl,hfz,hnd⟩:=hW
 have hA:DataW.TrodAll enc Tryz.prog W 0 (fun _=>true) true Tryz.f14.params.toList args.toList ds p:=hA0
 rw [Tryz.params14] at hA hval
 obtain⟨v0,vs0,d0,ds0,p0,q0,hargs,rfl,rfl,h0,r0⟩:=trodAll_cons hA
 obtain⟨v1,vs1,d1,ds1,p1,q1,rfl,rfl,rfl,h1,r1⟩:=trodAll_cons r0
 obtain⟨rfl,rfl,rfl⟩:=trodAll_nil r1
 simp only [bulk_app,Rows.uptoBulkAll] at hk
 obtain rfl:args=#[v0,v1]:=by cases args;simp_all
 have walk:Calls Tryz.prog 14 #[v0,v1] W fun e w'=>e=.returned (.bool true)∧Upto [] W w':=by
  obtain⟨qq0,hq0⟩:=kSz (okWide_struct Tryz.underlying45 (hval 0 45 v0 rfl rfl)) h0 (by omega)
  obtain⟨z1,rfl,-,-,w1⟩:=open_int Tryz.underlying80 (hval 1 80 v1 rfl rfl) h1
  exact printerParentheses_walk qq0 v0 z1 W hq0 (by simpa [Lit.wf,IntKind.min,IntKind.max,IntKind.signed,IntKind.bits] using w1) hE
 exact walk.mono fun e W' ⟨he,hu⟩=>⟨_,he,post_true (hv:=rfl) (by kernel_rfl) (by kernel_rfl) (by kernel_rfl) hW' (fun _=>rfl) hu⟩

set_option maxRecDepth 100000 in
theorem printerParentheses_reads (os:Os) {H:Type} (enc:TypeId×Value→H):∃places,DataW.whole enc Tryz.prog ((printerParentheses_laidWorld os).forCall (fun _ _=>0) ⟨#[],#[.agg #[.slice none 0 0,.int .i64 0,.slice none 0 0,.int .i64 0,.int .i64 0,.int .i64 0,.slice none 0 0],.int .u16 0],[]⟩).memory Tryz.f14.params.toList Rows.printerParenthesesSpec.vars false #[.agg #[.slice none 0 0,.int .i64 0,.slice none 0 0,.int .i64 0,.int .i64 0,.int .i64 0,.slice none 0 0],.int .u16 0].toList 8=some ([.agg [.nil,.agg [.lit (.int .i64 0),.nil,.lit (.int .i64 0),.lit (.int .i64 0),.lit (.int .i64 0),.nil]],.lit (.int .u16 0)],[],places) :=
 ⟨[],by kernel_rfl⟩
set_option maxRecDepth 100000 in
theorem printerParentheses_lifted (os:Os) (started:os.Started) (H:Type) (enc:TypeId×Value→H) (F:Stop.Interp) :
  ReturnsInHanded {} Tryz.checked os 14 .any ((Rows.OpenSpec.upto Rows.printerParenthesesSpec).preRow enc Tryz.prog Tryz.f14 Rows.printerParenthesesUptoRow.domain false Rows.printerParenthesesUptoRow.laid) (((Rows.OpenSpec.upto Rows.printerParenthesesSpec).at F).post enc Tryz.prog Tryz.f14 false true false false):=by
 obtain⟨places,hx⟩:=printerParentheses_reads os enc
 refine returnsInHanded_of_row (C:=Tryz.checked) (s:=(Rows.OpenSpec.upto Rows.printerParenthesesSpec)) own started (by kernel_rfl) Tryz.func14
  (witness_row_atRef (enc:=enc) (C:=Tryz.checked) false (printerParentheses_laidWorld os) #[.agg #[.slice none 0 0,.int .i64 0,.slice none 0 0,.int .i64 0,.int .i64 0,.int .i64 0,.slice none 0 0],.int .u16 0] (printerParentheses_laidWorld_os os) (by kernel_rfl) (by kernel_rfl) (by kernel_rfl)
   (OpenSpec.preRow_of_cond 8 hx (by kernel_rfl) (fun k hk=>by cases hk;kernel_rfl) (by kernel_rfl) (printerParentheses_laid_met os _))) ?_
 intro W base args ds gs before hval hW _ hcond _ hL _ _
 exact printerParentheses_contract H enc W base args ds gs before hval hW hL (of_decide_eq_true (hcond _ rfl))

theorem printerParentheses_and {a b:Bool} (h:a=true) (k:b=true):(a&&b)=true:=by rw [h,k];rfl
theorem printerParentheses_k0:(Rows.printerParenthesesUptoRow.wf (OpenSpec.ofChange (Rows.OpenSpec.upto Rows.printerParenthesesSpec).bare))=true:=by kernel_rfl
theorem printerParentheses_k1:(laidOutB Tryz.pinned.checked.prog)=true:=by kernel_rfl
theorem printerParentheses_k2:(mapsRowed Tryz.pinned.checked.prog)=true:=by kernel_rfl
theorem printerParentheses_k3:(Tryz.f14.params.all (Tryz.pinned.checked.prog.readableRec ·))=true:=by kernel_rfl
theorem printerParentheses_k4:(namedTie Tryz.pinned.checked.prog Rows.printerParenthesesUptoRow.named (Rows.OpenSpec.upto Rows.printerParenthesesSpec).bare.vars)=true:=by kernel_rfl
theorem printerParentheses_k5:(Rows.printerParenthesesUptoRow.stops==[])=true:=by kernel_rfl
theorem printerParentheses_k6:(Tryz.pinned.checked.prog.stops==[])=true:=by kernel_rfl
theorem printerParentheses_k7:(Rows.printerParenthesesUptoRow.knobs==[])=true:=by kernel_rfl
theorem printerParentheses_k8:(Tryz.pinned.checked.prog.stopKnobs==[])=true:=by kernel_rfl
theorem printerParentheses_k9:(Rows.printerParenthesesUptoRow.inPlace==Tryz.pinned.checked.prog.inPlace 14)=true:=by kernel_rfl
theorem printerParentheses_k10:(Rows.printerParenthesesUptoRow.unfollowed==Tryz.pinned.checked.prog.unfollowed 14)=true:=by kernel_rfl
theorem printerParentheses_k11:(Rows.printerParenthesesUptoRow.recurses==Tryz.pinned.checked.prog.recurses 14)=true:=by kernel_rfl
theorem printerParentheses_k12:(Rows.printerParenthesesUptoRow.named==Tryz.pinned.checked.prog.varsNamed 14)=true:=by kernel_rfl
theorem printerParentheses_k13:(Rows.printerParenthesesUptoRow.maps==(Tryz.f14.params.toList++(Rows.OpenSpec.upto Rows.printerParenthesesSpec).bare.plain.varTypes Tryz.pinned.checked.prog).any (Tryz.pinned.checked.prog.mapsRec ·))=true:=by kernel_rfl
theorem printerParentheses_k14:(Rows.printerParenthesesUptoRow.ifaces==(Tryz.f14.params.toList++(Rows.OpenSpec.upto Rows.printerParenthesesSpec).bare.plain.varTypes Tryz.pinned.checked.prog).any (Tryz.pinned.checked.prog.ifacesRec ·))=true:=by kernel_rfl
theorem printerParentheses_k15:(Rows.printerParenthesesUptoRow.mapsOut==Tryz.pinned.checked.prog.mapsAmong Tryz.f14.resultTypes.toList)=true:=by kernel_rfl
theorem printerParentheses_k16:(Rows.printerParenthesesUptoRow.loops==(Tryz.f14.params.toList++(Rows.OpenSpec.upto Rows.printerParenthesesSpec).bare.plain.varTypes Tryz.pinned.checked.prog).any (Tryz.pinned.checked.prog.loopsFrom ·))=true:=by kernel_rfl
theorem printerParentheses_k17:(Rows.printerParenthesesUptoRow.wideKeys==(Tryz.f14.params.toList++(Rows.OpenSpec.upto Rows.printerParenthesesSpec).bare.plain.varTypes Tryz.pinned.checked.prog++Tryz.f14.resultTypes.toList).any (Tryz.pinned.checked.prog.wideKeysFrom ·))=true:=by kernel_rfl
theorem printerParentheses_k18:((Rows.OpenSpec.upto Rows.printerParenthesesSpec).bare.vars.all (Tryz.pinned.checked.prog.varReadable ·))=true:=by kernel_rfl
theorem printerParentheses_k19:(Tryz.f14.resultTypes.all (fun t=>Tryz.pinned.checked.prog.readableRec t&&decide (t<Tryz.pinned.checked.prog.types.size)))=true:=by kernel_rfl
theorem printerParentheses_k20:(Rows.printerParenthesesUptoRow.ifacesOut==Tryz.f14.resultTypes.toList.any (Tryz.pinned.checked.prog.ifacesRec ·))=true:=by kernel_rfl
theorem printerParentheses_k21:(Rows.printerParenthesesUptoRow.loopsOut==Tryz.f14.resultTypes.toList.any (Tryz.pinned.checked.prog.loopsFrom ·))=true:=by kernel_rfl
theorem printerParentheses_k22:(Rows.printerParenthesesUptoRow.plainKeys==Tryz.pinned.checked.prog.plainKeys)=true:=by kernel_rfl
theorem printerParentheses_k23:(Rows.printerParenthesesUptoRow.shortTexts.isNone)=true:=by kernel_rfl
theorem printerParentheses_k24:(Tryz.pinned.checked.prog.stopsHeard)=true:=by kernel_rfl
theorem printerParentheses_k25:(Tryz.pinned.checked.prog.mayEnter)=true:=by kernel_rfl
theorem printerParentheses_k26:(Rows.printerParenthesesUptoRow.lifted==Tryz.pinned.checked.prog.liftsFinal)=true:=by kernel_rfl
theorem printerParentheses_k27:(Tryz.pinned.checked.prog.make==some Rows.printerParenthesesUptoRow.make)=true:=by kernel_rfl
theorem printerParentheses_k28:(Rows.printerParenthesesUptoRow.kinds==(if Rows.printerParenthesesUptoRow.domain.isEmpty then [] else Tryz.f14.params.toList.map fun t=>match Tryz.pinned.checked.prog.underlying t with | some (.int k)=>some k | _=>none))=true:=by kernel_rfl
theorem printerParentheses_k29:(Rows.printerParenthesesUptoRow.pinned==Rows.printerParenthesesUptoRow.pinnedBy)=true:=by kernel_rfl
theorem printerParentheses_k30:(Rows.printerParenthesesUptoRow.veiled==(Tryz.f14.params.toList++(Rows.OpenSpec.upto Rows.printerParenthesesSpec).bare.plain.varTypes Tryz.pinned.checked.prog++Tryz.f14.resultTypes.toList).any (Tryz.pinned.checked.prog.veiledRec ·))=true:=by kernel_rfl
theorem printerParentheses_k31:(Rows.printerParenthesesUptoRow.veiledFits Tryz.pinned.checked.prog Tryz.f14.params.toList (Tryz.f14.params.toList++(Rows.OpenSpec.upto Rows.printerParenthesesSpec).bare.plain.varTypes Tryz.pinned.checked.prog++Tryz.f14.resultTypes.toList))=true:=by kernel_rfl
set_option maxRecDepth 100000 in
theorem printerParentheses_closed:joinedFacts Tryz.pinned.checked.prog 14 Tryz.f14 (Rows.OpenSpec.upto Rows.printerParenthesesSpec).bare Rows.printerParenthesesUptoRow=true:=by
 unfold joinedFacts
 exact (printerParentheses_and (printerParentheses_and (printerParentheses_and (printerParentheses_and (printerParentheses_and (printerParentheses_and (printerParentheses_and (printerParentheses_and (printerParentheses_and (printerParentheses_and (printerParentheses_and (printerParentheses_and (printerParentheses_and (printerParentheses_and (printerParentheses_and (printerParentheses_and (printerParentheses_and (printerParentheses_and (printerParentheses_and (printerParentheses_and (printerParentheses_and (printerParentheses_and (printerParentheses_and (printerParentheses_and (printerParentheses_and (printerParentheses_and (printerParentheses_and (printerParentheses_and (printerParentheses_and (printerParentheses_and (printerParentheses_and printerParentheses_k0 printerParentheses_k1) printerParentheses_k2) printerParentheses_k3) printerParentheses_k4) printerParentheses_k5) printerParentheses_k6) printerParentheses_k7) printerParentheses_k8) printerParentheses_k9) printerParentheses_k10) printerParentheses_k11) printerParentheses_k12) printerParentheses_k13) printerParentheses_k14) printerParentheses_k15) printerParentheses_k16) printerParentheses_k17) printerParentheses_k18) printerParentheses_k19) printerParentheses_k20) printerParentheses_k21) printerParentheses_k22) printerParentheses_k23) printerParentheses_k24) printerParentheses_k25) printerParentheses_k26) printerParentheses_k27) printerParentheses_k28) printerParentheses_k29) printerParentheses_k30) printerParentheses_k31)

theorem printerParentheses_said:Rows.PrinterParenthesesUptoSaid :=
 OpenClaim.holds_of_cond 14 Tryz.f14 rfl rfl rfl rfl rfl rfl rfl ⟨rfl,rfl,rfl,rfl,rfl⟩ rfl rfl rfl rfl rfl (by kernel_rfl) Tryz.func14 printerParentheses_closed
  (of_decide_eq_true (by kernel_rfl)) (by unfold Func.isWrapper;first | (rw [if_pos (by decide +kernel)];kernel_rfl) | (rw [if_neg (by decide +kernel)];exact⟨rfl,rfl⟩))
  (fun os started H enc _ F=>by rw [OpenClaim.pre_eq_preRow];exact printerParentheses_lifted os started H enc F)
theorem printerParentheses_plain (f:FuncId) (fn:Func) (hf:Tryz.pinned.checked.prog.funcNamed "palmette/palmettelaw11.PrinterParentheses"=some f) (hfn:Tryz.pinned.checked.prog.funcs[f]?=some fn) :
  true=Tryz.pinned.checked.prog.looks []∧∀(j:Nat) t,fn.params[j]?=some t→Tryz.pinned.checked.prog.wantsStandIn t=false:=by
 obtain rfl:f=14:=Option.some.inj ((show Tryz.prog.funcNamed "palmette/palmettelaw11.PrinterParentheses"=some 14 by kernel_rfl).symm.trans hf) |>.symm
 obtain rfl:fn=Tryz.f14:=(Option.some.inj (Tryz.func14.symm.trans hfn)).symm
 refine⟨by kernel_rfl,fun j t ht=>?_⟩
 rw [Tryz.params14] at ht
 have hm:t∈[45,80]:=by simpa using Array.mem_of_getElem? ht
 simp only [List.mem_cons,List.not_mem_nil,or_false] at hm
 rcases hm with rfl | rfl
 ·exact (show Tryz.prog.wantsStandIn 45=false by kernel_rfl)
 ·exact (show Tryz.prog.wantsStandIn 80=false by kernel_rfl)

/-- the law's card -/
theorem printerParentheses:Rows.PrinterParenthesesUptoCardSaid :=
 Claim7.holds_tied_plain_at .later [] _ _ _ _ printerParentheses_said (fun _ h=>by cases h) (by kernel_rfl) (fun _ h=>by cases h) printerParenthesesUpto_row_tie rfl ⟨rfl,rfl⟩ (by kernel_rfl) rfl printerParentheses_plain (by kernel_rfl)
end Go.Proofs.YtkhbpebpljdifaaGreatDoor
