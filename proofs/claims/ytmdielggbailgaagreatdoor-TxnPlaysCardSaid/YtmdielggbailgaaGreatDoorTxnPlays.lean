/- Part s of the proof. -/
import Derived.Test.YtmdielggbailgaaGreatDoorPartF
import Derived.Test.YtmdielggbailgaaGreatDoorPartG
set_option linter.unusedVariables false
set_option linter.unusedSimpArgs false
namespace Go.Sm
open Go Go.Proofs Go.Proofs.YtmdielggbailgaaGreatDoor Go.ChangeShapes Go.WideShapes Go.RowKit Go.ChangeAt
namespace TxnPlays
set_option maxRecDepth 100000 in
theorem contract (H:Type) (enc:TypeId×Value→H) (W:World) (base:Nat) (args:Array Value) (ds gs:List (DataW H)) (before:List MemPlace)
  (hval:∀(j:Nat) t v,Tryz.f9.params[j]? =some t→args[j]? =some v→Value.okWide Tryz.prog W .any base t v)
  (hW:DataW.Whole enc Tryz.prog Tryz.f9.params.toList Rows.txnPlaysSpec.vars false W args.toList ds gs before) (hL:laidMetH Tryz.prog Rows.txnPlaysRow.laid W):
  Calls Tryz.prog 9 args W λe W'=>∃v,e= .returned v∧Rows.txnPlaysSpec.post enc Tryz.prog Tryz.f9 false true false false W args v W':=by
 have hW':=hW;obtain⟨p,q,hA0,hV,rfl,hfz,hnd⟩:=hW;have hA:DataW.TrodAll enc Tryz.prog W 0 (λ_=>true) true Tryz.f9.params.toList args.toList ds p:=hA0
 rw [Tryz.params9] at hA hval;obtain⟨v0,vs0,d0,ds0,p0,q0,hargs,rfl,rfl,h0,r0⟩:=trodAll_cons hA;obtain⟨rfl,rfl,rfl⟩:=trodAll_nil r0;obtain rfl:args= #[v0]:=by cases args;simp_all
 obtain⟨rfl,rfl⟩:=trodVars_none hV;obtain⟨ρ0,hR0⟩:=base_R hL;obtain⟨fu0,hf0⟩:=h0;obtain⟨ρ1,σ1,a0,l0,hR1,hc1,hle1,hv0,hg1,hok0,hsl0⟩:=open_sl (f:=4) (sz:=6) (enc:=qnr) hR0 calm0 Tryz.underlying64 (by kernel_rfl) (by kernel_rfl) (λ_=>rfl) okD_of (hval 0 64 v0 rfl rfl) hf0
 have hn0:=gnone0;have hz0:0<st0.n:=by decide
 have hn1:gnone σ1:=hg1.get hn0 hz0;have hz1:0<σ1.n:=Nat.lt_of_lt_of_le hz0 hg1.n;exact zbl (E:=E1) (s:=Rows.txnPlaysSpec) (aa:= #[a0]) good (qmr rfl rfl) gam1 laidOut0 (by kernel_rfl) (bt:=4) (by kernel_rfl) Tryz.underlying4 rfl hW' rfl hR1 hc1 (LR.cons hv0 (.nil _)).toArray (qpw l0 hok0 a0 σ1 hn1 hz1 hsl0)
theorem laid_met (os:Os):laidMet Tryz.prog Rows.txnPlaysRow.laid ((ql2 os).forCall (λ_ _=>0) ⟨#[], #[.slice none 0 0], []⟩).memory:=
 laidMet_of_run' 8 (by kernel_rfl) (by kernel_rfl)
theorem reads (os:Os) {H:Type} (enc:TypeId×Value→H):∃places,DataW.whole enc Tryz.prog ((ql2 os).forCall (λ_ _=>0) ⟨#[], #[.slice none 0 0], []⟩).memory Tryz.f9.params.toList Rows.txnPlaysSpec.vars false (#[.slice none 0 0]:Array Value).toList 8=some ([.nil], [],places):=
 ⟨[],by kernel_rfl⟩
set_option maxRecDepth 100000 in
theorem lifted (os:Os) (started:os.Started) (H:Type) (enc:TypeId×Value→H) (F:Stop.Interp):
  ReturnsInHanded {} Tryz.checked os 9 .any ((OpenSpec.ofChange Rows.txnPlaysSpec).preRow enc Tryz.prog Tryz.f9 Rows.txnPlaysRow.domain false Rows.txnPlaysRow.laid) (((OpenSpec.ofChange Rows.txnPlaysSpec).at F).post enc Tryz.prog Tryz.f9 false true false false):=by
 obtain⟨places,hx⟩:=reads os enc;refine returnsInHanded_of_row (C:=Tryz.checked) (s:=OpenSpec.ofChange Rows.txnPlaysSpec) own0 started (by kernel_rfl) Tryz.func9
  (witness_row_at (enc:=enc) (C:=Tryz.checked) false (ql2 os) #[.slice none 0 0] rfl (by kernel_rfl) (by kernel_rfl) (by kernel_rfl)
   (OpenSpec.preRow_of_cond 8 hx (by kernel_rfl) (λk hk=>by cases hk) (by kernel_rfl) (laid_met os))) ?_
 intro W base args ds gs before hval hW _ _ _ hL _ _;exact contract H enc W base args ds gs before hval hW hL
theorem jf1:(Rows.txnPlaysRow.inPlace==Tryz.pinned.checked.prog.inPlace 9)=true:=by kernel_rfl
theorem jf2:(Rows.txnPlaysRow.unfollowed==Tryz.pinned.checked.prog.unfollowed 9)=true:=by kernel_rfl
theorem jf3:(Rows.txnPlaysRow.recurses==Tryz.pinned.checked.prog.recurses 9)=true:=by kernel_rfl
theorem jf4:(Rows.txnPlaysRow.named==Tryz.pinned.checked.prog.varsNamed 9)=true:=by kernel_rfl
theorem jf:joinedFacts Tryz.pinned.checked.prog 9 Tryz.f9 (OpenSpec.ofChange Rows.txnPlaysSpec).bare Rows.txnPlaysRow=true:=by
 unfold joinedFacts;rw [jf1,jf2,jf3,jf4]
 kernel_rfl
theorem jn:Tryz.pinned.checked.prog.funcNamed Rows.txnPlaysRow.func=some 9:=by kernel_rfl
theorem jg:false=Rows.txnPlaysRow.goesBy Tryz.pinned.checked.prog:=by kernel_rfl
theorem said:Rows.TxnPlaysSaid:=
 OpenClaim.holds_of_cond 9 Tryz.f9 rfl rfl rfl rfl rfl rfl rfl ⟨rfl,rfl,rfl,rfl,rfl⟩ rfl rfl rfl rfl rfl jn Tryz.func9 jf
  (of_decide_eq_true (by kernel_rfl)) (by unfold Func.isWrapper;first|(rw [if_pos (by decide+kernel)];kernel_rfl)|(rw [if_neg (by decide+kernel)];exact⟨rfl,rfl⟩))
  (λos started H enc _ F=>by rw [OpenClaim.pre_eq_preRow];exact lifted os started H enc F)
theorem plain (f:FuncId) (fn:Func) (hf:Tryz.pinned.checked.prog.funcNamed "selion/selionlaw12.TxnPlays" =some f) (hfn:Tryz.pinned.checked.prog.funcs[f]? =some fn):
  true=Tryz.pinned.checked.prog.looks []∧∀(j:Nat) t,fn.params[j]? =some t→Tryz.pinned.checked.prog.wantsStandIn t=false:=by
 obtain rfl:f=9:=Option.some.inj ((show Tryz.prog.funcNamed "selion/selionlaw12.TxnPlays" =some 9 by kernel_rfl).symm.trans hf)|>.symm
 obtain rfl:fn=Tryz.f9:=(Option.some.inj (Tryz.func9.symm.trans hfn)).symm;refine⟨by kernel_rfl,λj t ht=> ?_⟩
 rw [Tryz.params9] at ht;have hm:t∈ [64]:=by simpa using Array.mem_of_getElem? ht
 have hall:([64].all λu=> !Tryz.prog.wantsStandIn u)=true:=by kernel_rfl
 exact(show Tryz.prog.wantsStandIn t=false by simpa using List.all_eq_true.1 hall t hm)
theorem card:Rows.TxnPlaysCardSaid:=
 Claim7.holds_tied_plain_at .later [] _ _ _ _ said (λ_ h=>by cases h) (by kernel_rfl) (λ_ h=>by cases h) txnPlays_row_tie rfl ⟨rfl,rfl⟩ (by kernel_rfl) rfl plain jg
end TxnPlays
end Go.Sm
namespace Go.Proofs.YtmdielggbailgaaGreatDoor
theorem txnPlays_proved:Rows.TxnPlaysCardSaid:=Go.Sm.TxnPlays.card
end Go.Proofs.YtmdielggbailgaaGreatDoor
