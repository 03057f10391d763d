/- Part B of the proof. -/
import Derived.Orders
import Derived.Lib.Overlaps
import Derived.Laws.Externs
import Derived.Sort.Grow
import Derived.IntWalk
import Derived.ChangeSlices
import Derived.Test.YtmdielggbailgaaGreatDoorPartA
set_option linter.unusedVariables false
set_option linter.unusedSimpArgs false
namespace Go.Sm
open Go
set_option maxRecDepth 100000
set_option maxHeartbeats 4000000
section
variable {P:Program}
theorem OR.other {ρ:Rho} {p:Place} {w w':World} {o:CObj} {r:Nat} {x:Option (List Deferred)} {o':Obj} (h:OR P ρ p w o) (hr:w.heap[r]? =some (.deferred x)) (wr:Wr w w' r o'):OR P ρ p w' o:=by
 have key:∀{y:Obj},w.heap[p.b]? =some y→(∀z,y≠ .deferred z)→w'.heap[p.b]? =w.heap[p.b]? :=by
  intro y hy hn;rw [wr.at_,if_neg];intro e;rw [e,hr] at hy;cases hy;exact hn _ rfl
 cases o with
 |cells c e ro=>
  cases ro with
  |true=>
   refine⟨h.1,λk u=> ?_⟩
   obtain⟨v',h1,h2⟩:=h.2 k u;refine⟨v', ?_,h2⟩;rw [←h1];simp only [World.cell?] at h1⊢;cases hy:w.heap[p.b]? with
   |none=>rw [hy] at h1;cases h1
   |some y=>rw [key hy (by intro z e;subst e;rw [hy] at h1;cases h1),hy]
  |false=>obtain⟨_,cc,fz,h1,_⟩:=id h;exact h.congr (key h1 (by simp))
 |map es n=>obtain⟨es',h1,_⟩:=id h;exact h.congr (key h1 (by simp))
 |siter s n=>exact h.congr (key h.1 (by simp))
 |miter m a b c=>obtain⟨_,m',h1,_⟩:=id h;exact h.congr (key h1 (by simp))
 |loop st pend fn tm sz ps asg body=>obtain⟨r',h1,_⟩:=id h;exact h.congr (key h1 (by simp))
 |dead=>trivial
theorem R.other {ρ:Rho} {σ:CSt} {w w':World} {r:Nat} {x:Option (List Deferred)} {o':Obj} (h:R P ρ σ w) (hr:w.heap[r]? =some (.deferred x)) (wr:Wr w w' r o'):R P ρ σ w':=
 ⟨h.dom,h.tot,λi p a b=>Nat.lt_of_lt_of_le (h.lt i p a b) wr.size,λi o p a b=>(h.obj i o p a b).other hr wr,h.inj,h.glob,h.gn⟩
theorem R.beyond {ρ:Rho} {σ:CSt} {w w':World} {o':Obj} (h:R P ρ σ w) (wr:Wr w w' w.heap.size o'):R P ρ σ w'∧Frm ρ σ w ρ σ w':=by
 refine⟨⟨h.dom,h.tot,λi p a b=>Nat.lt_of_lt_of_le (h.lt i p a b) wr.size,λi o p a b=> ?_,h.inj,h.glob,h.gn⟩,ρ.le_refl,wr.os,wr.tape,wr.output,wr.size,λk hk _=> ?_,λi p a b=> .inr ⟨i,p,a,b,rfl⟩⟩
 ·by_cases hd:o= .dead
  ·subst hd;trivial
  ·refine(h.obj i o p a b).congr ?_;rw [wr.at_,if_neg];have:=h.lt i p b ⟨o,a,hd⟩;omega
 ·rw [wr.at_,if_neg (by omega)]
theorem qfy {B:Nat} {ρ:Rho} {σ:CSt} {w:World} {a:CAct} {ac:Act} (hR:R P ρ σ w) (hA:AR B ρ σ w a ac) (f:ResultVar→Sem Value) (hf1:∀t,f (.tmp t)=pure (ac.tmps.getD t undef))
  (hf2:∀t ty,f (.cell t ty)=(do loadVar ty (←asAddr (ac.tmps.getD t undef)))):∀(l:List ResultVar) (vs:List Value),qc8 P σ a l=some vs→∃vs',(l.mapM f).run P w= .ok vs' w∧LR ρ vs vs'
 | [],vs,h=>by simp only [qc8,Option.some.injEq] at h;subst h;exact⟨[],by simp, .nil ρ⟩
 | .tmp t::l,vs,h=>by
  simp only [qc8,Option.map_eq_some_iff] at h;obtain⟨r,hr,rfl⟩:=h;obtain⟨r',h1,h2⟩:=qfy hR hA f hf1 hf2 l r hr;exact⟨_,by simp only [List.mapM_cons,hf1,Sem.run_bind,Sem.run_pure,Result.andThen_ok,h1], .cons (hA.tm t) h2⟩
 | .cell t ty::l,vs,h=>by
  simp only [qc8] at h;split at h
  ·rename_i v hv;simp only [Option.map_eq_some_iff] at h;obtain⟨r,hr,rfl⟩:=h;obtain⟨r',h1,h2⟩:=qfy hR hA f hf1 hf2 l r hr;obtain⟨v',h3,h4⟩:=qmx hR (hA.tm t) hv;have h5:(f (.cell t ty)).run P w= .ok v' w:=by
    have hp:∃x,ac.tmps.getD t undef= .pointer (some x):=by
     unfold loadAt at hv;split at hv
     ·rename_i hx;have:=hA.tm t;rw [hx] at this;exact this.ptrS
     ·cases hv
    obtain⟨x,hx⟩:=hp;rw [hf2];rw [hx] at h3⊢;simpa [Instr.loadAt,Instr.sureAddr,asAddr] using h3
   exact⟨_,by simp only [List.mapM_cons];rw [Sem.run_bind,h5];simp only [Result.andThen_ok,Sem.run_bind,h1,Sem.run_pure], .cons h4 h2⟩
  ·cases h
theorem qll {B:Nat} {ρ:Rho} {σ:CSt} {w:World} {a:CAct} {ac:Act} (hR:R P ρ σ w) (hA:AR B ρ σ w a ac) {fn:Func} {v:Value} (h:qi9 P σ fn a=some v):∃v',(results fn ac.tmps).run P w= .ok v' w∧VR ρ v v':=by
 unfold qi9 at h;have key:∀vs,qc8 P σ a fn.results.toList=some vs→∃vs':List Value,LR ρ vs vs'∧(results fn ac.tmps).run P w= .ok (if h:vs'.toArray.size=1 then vs'.toArray[0] else .tuple vs'.toArray) w:=by
  intro vs hvs;unfold results;rw [Array.mapM_eq_mapM_toList,Sem.run_bind,Sem.run_map];generalize hfn:(λx:ResultVar=>(_:Sem Value))=f
  obtain⟨vs',h1,h2⟩:=qfy hR hA f (λt=>by rw [←hfn]) (λt ty=>by rw [←hfn]) _ _ hvs
  refine⟨vs',h2, ?_⟩;rw [h1];simp only [Result.andThen_ok,Sem.run_pure]
 split at h
 ·rename_i v0 hv;cases h;obtain⟨vs',h1,h2⟩:=key _ hv
  match vs',h1 with
  | [v'],h1=>exact⟨v',by simpa using h2,h1.head⟩
  | [],h1=>exact absurd h1.1 (by simp)
  |_::_::_,h1=>exact absurd h1.1 (by simp)
 ·rename_i l hne hl;cases h;obtain⟨vs',h1,h2⟩:=key _ hl;refine⟨.tuple vs'.toArray, ?_, .tuple _ _ h1.toArray.1 h1.toArray.2⟩;rw [h2,dif_neg];have:=h1.1;intro e;simp at e;rw [e] at this
  match l,this,hne with
  | [x],_,hne=>exact hne x rfl
 ·cases h
theorem qsm {fr:Frame} {cs:List Frame} {w w':World} {r:Nat} {as0:Array Value} {ds:List Deferred} (hm:fr.mode≠ .run) (hd:fr.defers={target:= .collected r,args:=as0}::ds)
  (hr:(Instr.takeDeferred r).run P w= .ok [] w'):step P (lone fr cs w)= .next (lone {fr with defers:=ds} cs w'):=by
 refine step_lone_go ?_;obtain⟨fn,tmps,todo,defers,mode,kind,rnd⟩:=fr;simp only at hm hd;subst hd;cases mode with
 |run=>exact absurd rfl hm
 |returning=>simp [stepG,unwind,hr]
 |panicking c=>simp [stepG,unwind,hr]
theorem qsf {fr:Frame} {cs:List Frame} {w:World} {g:FuncId} {cap as0:Array Value} {ds:List Deferred} {fn:Func} (G:Good P) (hm:fr.mode≠ .run) (hd:fr.defers={target:= .fn (.func g) cap,args:=as0}::ds)
  (hf:P.funcs[g]? =some fn) (hb:fn.body.isSome=true):
  step P (lone fr cs w)= .next (lone (Frame.enter P g (as0++cap) .deferred) ({fr with defers:=ds}::cs) w):=by
 have hng:=G.ng g fn hf hb;have hb':fn.body.isNone=false:=by cases hbb:fn.body<;>simp_all
 have hi:(invoke (.fn (.func g) cap) as0).run P w= .ok (.enter g (as0++cap)) w:=by
  simp only [invoke,callFunc,Sem.run_bind,run_program,Result.andThen_ok,hf];rw [hng,hb']
  rfl
 refine step_lone_go ?_;obtain⟨fn',tmps,todo,defers,mode,kind,rnd⟩:=fr;simp only at hm hd;subst hd;cases mode with
 |run=>exact absurd rfl hm
 |returning=>simp [stepG,unwind,callDeferred,hi]
 |panicking c=>simp [stepG,unwind,callDeferred,hi]
theorem qj2 {fr c:Frame} {cs:List Frame} {w:World} {v:Value} {fn:Func} (hm:fr.mode= .returning) (hd:fr.defers= []) (hk:fr.kind= .deferred) (hf:P.funcs[fr.fn]? =some fn) (hr:(results fn fr.tmps).run P w= .ok v w)
  (hc:c.mode= .returning∨∃u,c.mode= .panicking [{v:=u,recovered:=false}]):step P (lone fr (c::cs) w)= .next (lone c cs w):=by
 rcases hc with hc|⟨u,hc⟩
 ·exact step_lone_go (by simp [stepG,unwind,doReturn,hm,hd,hk,hf,hr,hc])
 ·exact step_lone_go (by simp [stepG,unwind,doReturn,hm,hd,hk,hf,hr,hc])
theorem qjy {fr c:Frame} {cs:List Frame} {w:World} {v u:Value} {fn:Func} (hm:fr.mode= .returning) (hd:fr.defers= []) (hk:fr.kind= .deferred) (hf:P.funcs[fr.fn]? =some fn) (hr:(results fn fr.tmps).run P w= .ok v w)
  (hc:c.mode= .panicking [{v:=u,recovered:=true}]):step P (lone fr (c::cs) w)= .next (lone {c with mode:= .returning} cs w):=
 step_lone_go (by simp [stepG,unwind,doReturn,hm,hd,hk,hf,hr,hc])
theorem DfR.keep {B:Nat} {ρ:Rho} {σ:CSt} {w w':World} {r:Nat} {o:Obj} {l:List CDef} {l':List Deferred} (wr:Wr w w' r o) (hn:∀d∈l',∀q,d.target= .collected q→q≠r) (h:DfR B ρ σ w l l'):DfR B ρ σ w' l l':=by
 induction h with
 |nil=>exact .nil
 |cons d d' l l' h _ ih=>exact .cons d d' l l' h (ih λe he=>hn e (by simp [he]))
 |mark q l l' h hn' _ ih=>
  refine .mark q l l' ⟨?_,h.2.1,h.2.2⟩ hn' (ih λe he=>hn e (by simp [he]))
  rw [wr.at_,if_neg (hn {target:= .collected q,args:= #[]} (by simp) q rfl)]
  exact h.1
theorem FrmB.refl (B:Nat) (ρ:Rho) (σ:CSt) (w:World):FrmB B ρ σ w ρ σ w:=⟨ρ.le_refl,rfl,rfl,rfl,Nat.le_refl _,λ_ _ _=>rfl,λi p a b=> .inr ⟨i,p,a,b,rfl⟩⟩
theorem qjz {B:Nat} {ρ:Rho} {σ:CSt}:∀(l':List Deferred) {l:List CDef} {w:World},DfR B ρ σ w l l'→∀(fr:Frame) (cs:List Frame),fr.mode≠ .run→fr.defers=l'→R P ρ σ w→
  ∃(w':World) (l'':List Deferred),Steps P (lone fr cs w) (lone {fr with defers:=l''} cs w')∧R P ρ σ w'∧FrmB B ρ σ w ρ σ w'∧DfR B ρ σ w' l l''∧(∀q as0 ds,l''≠{target:= .collected q,args:=as0}::ds)
 | [],l,w,h,fr,cs,hm,hd,hR=>⟨w, [],by rw [←hd];exact Steps.refl ..,hR, .refl ..,h,by simp⟩
 |d0::l',l,w,h,fr,cs,hm,hd,hR=>by
  cases h with
  |cons d d' l l' h t=>
   refine⟨w,d0::l',by rw [←hd];exact Steps.refl ..,hR, .refl .., .cons _ _ _ _ h t, ?_⟩
   intro q as0 ds e;obtain⟨g,fs,cs',bs,ds',as0',h1,h2,h3,h4,h5⟩:=h;rw [h5] at e;cases e
  |mark r l l' h hn t=>
   have hlt:=(Array.getElem?_eq_some_iff.1 h.1).1;have wr:=Wr.set w (.deferred none) hlt;have hrun:(Instr.takeDeferred r).run P w= .ok [] {w with heap:=w.heap.setIfInBounds r (.deferred none)}:=by
    simp [Instr.takeDeferred,getObj,setObj,Sem.run,h.1]
   have hst:=qsm (P:=P) (cs:=cs) hm hd hrun;obtain⟨w',l'',h1,h2,h3,h4,h5⟩:=qjz l' (t.keep wr hn) {fr with defers:=l'} cs hm rfl (hR.other h.1 wr)
   refine⟨w',l'', .head hst h1,h2, ?_,h4,h5⟩;refine FrmB.trans ⟨ρ.le_refl,wr.os,wr.tape,wr.output,wr.size,λk hk _=> ?_,λi p a b=> .inr ⟨i,p,a,b,rfl⟩⟩ h3
   rw [wr.at_,if_neg];have:=h.2.1;omega
theorem qq1.pre {B:Nat} {m m₂:Machine} {f:FuncId} {cs:List Frame} {dk:Option (Option Value)} {ρ ρ₂:Rho} {σ σ₂:CSt} {w w₂:World} {Q:Out→CSt→Prop} (h:qq1 B P m₂ f cs dk ρ₂ σ₂ w₂ Q) (hs:Steps P m m₂)
  (hf:FrmB B ρ σ w ρ₂ σ₂ w₂):qq1 B P m f cs dk ρ σ w Q:=by
 rcases h with⟨v,tk,σ',ρ',w',v',fr,h1,h2,h3,h4,h5,h6⟩|⟨v,σ',ρ',w',v',fr,h1,h2,h3,h4,h5,h6⟩
 ·exact .inl ⟨v,tk,σ',ρ',w',v',fr,h1,h2,hf.trans h3,h4,hs.trans h5,h6⟩
 ·exact .inr ⟨v,σ',ρ',w',v',fr,h1,h2,hf.trans h3,h4,hs.trans h5,h6⟩
theorem qr3.mono {ρ ρ':Rho} (hr:ρ.le ρ') {a b:Option Value} (h:qr3 ρ a b):qr3 ρ' a b:=by
 cases a<;>cases b<;>simp only [qr3] at h⊢
 exact h.mono hr
theorem sim_unw {E:Env} (G:Good E.P) {x:Ctx} {a:CAct} {m:Option Value} {σ:CSt} {Q:Out→CSt→Prop} (h:F qg7 E (qj5 E.P) (.unw x a m) σ Q):qut E.P x a m σ Q:=by
 intro B ρ w ac b t cs m' hB hR hA hfn hrnd hkind hdk hmm htk;have hmode:∀z:Option Value,qf1 z≠ .run:=λz=>by cases z<;>simp [qf1,qhp]
 obtain⟨w₁,l'',s₁,hR₁,hf₁,hd₁,hno⟩:=qjz (P:=E.P) ac.defers hA.df {atR b ac t with mode:=qf1 m'} (qfn cs a.tk) (hmode _) rfl hR
 have hA₁:AR B ρ σ w₁ a {ac with defers:=l''}:=⟨hA.sz,hA.tm,hd₁⟩
 simp only [F] at h;generalize hdf:a.df=dl at h hd₁;cases hd₁ with
 |mark r l l' h hn t=>exact absurd rfl (hno r #[] l')
 |nil=>
  simp only at h;cases m with
  |none=>
   cases m' with
   |some v=>exact hmm.elim
   |none=>
    simp only at h;split at h
    ·rename_i fn hf;split at h
     ·rename_i v hv;obtain⟨v',h1,h2⟩:=qll hR₁ hA₁ hv;exact .inl ⟨v,a.tk,σ,ρ,w₁,v',_,h,hR₁,hf₁,h2,s₁,htk,hfn,hkind,rfl,rfl,fn,hf,h1⟩
     ·exact h.elim
    ·exact h.elim
  |some v=>
   cases m' with
   |none=>exact hmm.elim
   |some v'=>
    simp only at h;split at h
    ·exact h.elim
    ·rename_i hx;have hxn:x.dk=none:=by cases hxx:x.dk<;>simp_all
     have htk':=htk hxn;rw [htk'] at s₁⊢;split at h
     ·rename_i fn hf;exact .inr ⟨v,σ,ρ,w₁,v',{atR b ac t with mode:=qf1 (some v'),defers:= []},h,hR₁,hf₁,hmm,s₁,hxn,hfn,rfl,rfl,fn,hf⟩
     ·exact h.elim
 |cons d d' l l' hcd t'=>
  simp only at h;obtain⟨g,fs,cs₀,bs,ds,as0',e1,e2,e3,e4,rfl⟩:=hcd;rw [e1] at h;simp only [qf6] at h;obtain⟨⟨fn,hf,hb⟩,hs⟩:=h;have hB₁:B≤w₁.heap.size:=Nat.le_trans hB hf₁.size
  --the frame that waits
  have hcall:=qsf (P:=E.P) (cs:=qfn cs a.tk) (w:=w₁) G (fr:={atR b ac t with mode:=qf1 m',defers:={target:= .fn (.func g) ds,args:=bs++as0'}::l'}) (hmode m') rfl hf hb
  have hfn2:=hs ρ w₁ ((bs++as0')++ds) ({atR b ac t with mode:=qf1 m',defers:=l'}::qfn cs a.tk) hR₁ ((e2.append e4).append e3) (by
   cases m with
   |none=>cases m' with
    |none=>exact⟨rfl,_,_,rfl,rfl⟩
    |some v=>exact hmm.elim
   |some v=>cases m' with
    |none=>exact hmm.elim
    |some v'=>exact⟨rfl,_,_,v',rfl,rfl,hmm⟩)
  rcases hfn2 with⟨v,tk,σ₂,ρ₂,w₂,v',fr,hq,hR₂,hf₂,hv,s₂,_,g1,g2,g3,g4,fn',g5,g6⟩|⟨_,_,_,_,_,_,_,_,_,_,_,hno2,_⟩
  ·have hfull:=hf₂.toFrm;have hA₂:AR B ρ₂ σ₂ w₂ {a with df:=l} {ac with defers:=l'}:=AR.frm hfull ⟨hA.sz,hA.tm,t'⟩
   have hpre:FrmB B ρ σ w ρ₂ σ₂ w₂:=hf₁.trans (hfull.toB hB₁);have s₁₂:=s₁.trans (Steps.head hcall s₂);have fin:∀(m₀:Option Value) (m₀':Option Value),qr3 ρ₂ m₀ m₀'→qut E.P x {a with df:=l} m₀ σ₂ Q→Steps E.P (lone fr (qfn ({atR b ac t with mode:=qf1 m',defers:=l'}::qfn cs a.tk) tk) w₂) (lone {atR b {ac with defers:=l'} t with mode:=qf1 m₀'} (qfn cs a.tk) w₂)→
     qq1 B E.P (lone {atR b ac t with mode:=qf1 m'} (qfn cs a.tk) w) x.f cs x.dk ρ σ w Q:=by
    intro m₀ m₀' hm₀ hsu hst;exact(hsu B ρ₂ w₂ {ac with defers:=l'} b t cs m₀' (Nat.le_trans hB₁ hfull.size) hR₂ hA₂ hfn hrnd hkind (hdk.mono (Rho.le_trans hf₁.le hfull.le)) hm₀ htk).pre (s₁₂.trans hst) hpre
   have hk:fr.kind= .deferred:=g2;cases tk with
   |false=>
    refine fin m m' (hmm.mono hfull.le) hq (.one (qj2 g3 g4 hk (by rw [g1];exact g5) g6 ?_))
    cases m' with
    |none=>exact .inl rfl
    |some v'=>exact .inr ⟨v',rfl⟩
   |true=>
    refine fin none none trivial hq ?_;cases m' with
    |none=>exact .one (qj2 (c:=qgv {atR b ac t with mode:=qf1 none,defers:=l'}) g3 g4 hk (by rw [g1];exact g5) g6 (.inl rfl))
    |some v'=>exact .one (qjy (c:=qgv {atR b ac t with mode:=qf1 (some v'),defers:=l'}) g3 g4 hk (by rw [g1];exact g5) g6 rfl)
  ·cases hno2
end
theorem ql9:∀(l:List Value) (n:Nat) (t:Tr Value) (i:Nat),(qfq l n t).get i=if n≤i∧i<n+l.length then l[i-n]? else t.get i
 | [],n,t,i=>by simp [qfq];omega
 |v::l,n,t,i=>by
  rw [qfq,ql9 l (n+1) (t.set n v) i];simp only [List.length_cons];by_cases h1:n+1≤i∧i<n+1+l.length
  ·rw [if_pos h1,if_pos (by omega)]
   rw [show i-n=(i-(n+1))+1 by omega]
   simp
  ·rw [if_neg h1,Tr.get_set];by_cases h2:i=n
   ·subst h2;rw [if_pos rfl,if_pos (by omega)];simp
   ·rw [if_neg h2,if_neg (by omega)]
section
variable {P:Program}
theorem enter_AR {B:Nat} {ρ:Rho} {σ:CSt} {w:World} {fn:Func} {args args':Array Value} (h:AsR ρ args args'):
  AR B ρ σ w (qfu fn args) {tmps:=args'++Array.replicate (fn.ntmps-args'.size) undef,defers:= []}:=by
 refine⟨?_,λi=> ?_, .nil⟩
 ·simp only [qfu,Array.size_append,Array.size_replicate,h.1];omega
 ·simp only [qfu,CAct.get];rw [ql9];simp only [Nat.zero_le,true_and,Nat.zero_add,Nat.sub_zero,Array.length_toList];by_cases hi:i<args.size
  ·rw [if_pos hi];have hi':i<args'.size:=by have:=h.1;omega
   rw [Array.getD_eq_getD_getElem?,Array.getElem?_append_left hi',Array.getElem?_eq_getElem hi'];simp only [Array.getElem?_toList,Array.getElem?_eq_getElem hi,Option.getD_some];exact h.2 i hi hi'
  ·rw [if_neg hi];exact .junk _
theorem st_end {b:Frame} {a:Act} {cs:List Frame} {w:World} (hr:b.roundOf=none):step P (lone (atR b a []) cs w)= .next (lone {atR b a [] with mode:= .returning} cs w):=
 step_lone_go (by simp [stepG,stepG.exec,atR,hr])
theorem st_ret {b:Frame} {a:Act} {k:List Item} {cs:List Frame} {w:World} (hr:b.roundOf=none):step P (lone (atR b a (.code .ret::k)) cs w)= .next (lone {atR b a (.code .ret::k) with mode:= .returning} cs w):=
 step_lone_go (by simp [stepG,stepG.exec,atR,hr])
theorem qrn {E:Env} {f:FuncId} {args:Array Value} {σ:CSt} {j i off n:Nat} {row:List Value} {e:TypeId} (h:qlf E f args σ=some (j,i,off,n,row,e)):
  ∃(hs:j<args.size),args[j]= .slice (some ⟨i,off,none⟩) n qa1∧σ.get i=some (.cells row e false)∧n<qa1:=by
 unfold qlf at h;split at h
 ·split at h
  ·rename_i hj;split at h
   ·rename_i hc;split at h
    ·rename_i hg;cases h;obtain⟨hs,he⟩:=Array.getElem?_eq_some_iff.1 hj;exact⟨hs,by rw [he,hc.1],hg,hc.2⟩
    ·cases h
   ·cases h
  ·cases h
 ·cases h
theorem AsR.put1 {ρ:Rho} {as0 bs:Array Value} (h:AsR ρ as0 bs) {j:Nat} {v x:Value} (hv:VR ρ v x) {hj:j<bs.size} (hx:bs[j]=x):AsR ρ (as0.setIfInBounds j v) bs:=by
 refine⟨by simp [h.1],λi u u'=> ?_⟩
 rw [Array.getElem_setIfInBounds];split
 ·rename_i e;subst e;rw [hx];exact hv
 ·exact h.2 i (by simpa using u) u'
theorem sim_fn {E:Env} (HG:∀f g,E.gam f=some g→∀(args:Array Value) (σ:CSt) (v:Value) (σ':CSt),g args σ=some (v,σ')→∀Q:Out→CSt→Prop,Q (.ret v false) σ'→qfe E.P f args none σ Q)
  {f:FuncId} {args:Array Value} {dk:Option (Option Value)} {σ:CSt} {Q:Out→CSt→Prop} (h:F qg7 E (qj5 E.P) (.fn f args dk) σ Q):qfe E.P f args dk σ Q:=by
 simp only [F] at h;split at h
 ·rename_i j i off n row e hb;obtain⟨hsi,hjs,hgi,hn⟩:=qrn hb;have h':∀k,n≤k→k<qa1→qfe E.P f (args.setIfInBounds j (.slice (some ⟨i,off,none⟩) n k)) dk (σ.put i (.cells (qbg row off (E.P.cellsOf e) k) e false)) Q:=λk h1 h2=>h k (by simp [h1,h2])
  refine⟨(h' n (Nat.le_refl _) hn).1,fun ρ w args' cs hR ha hdk=> ?_⟩
  obtain⟨p,hp,hor⟩:=hR.live_of_get hgi (by simp)
  have hv:=ha.2 j hsi (by rw [←ha.1];exact hsi)
  rw [hjs] at hv;generalize hx:args'[j]'(by rw [←ha.1];exact hsi)=x at hv
  have fin:∀k,n≤k→k<qa1→(k=0∨off+k*p.z=p.e)→VR ρ (.slice (some ⟨i,off,none⟩) n k) x→qq1 w.heap.size E.P (lone (Frame.enter E.P f args' (qgl dk)) cs w) f cs dk ρ σ w Q:=by
   intro k h1 h2 h3 h4;obtain⟨r1,r2⟩:=hR.bare hgi hp h3;refine((h' k h1 h2).2 ρ w args' cs r1 (ha.put1 h4 hx) hdk).pre (.refl _ _) (r2.toB (Nat.le_refl _))
  cases hv with
  |plain v hf=>simp [qae] at hf
  |slc _ _ _ _ q hq hcc=>exact absurd rfl hcc
  |slo _ _ _ cc q hq hnn hcc hbb=>
   rw [hp] at hq;cases hq;exact fin cc hnn hbb (.inr hcc) (.slc _ _ _ _ p hp (by omega))
  |sle _ _ a q hq hee=>exact fin 0 (Nat.le_refl _) (by simp [qa1]) (.inl rfl) (.slz _ _ _ p hp)
 split at h
 ·rename_i g hg;cases dk with
  |some d=>simp at hg
  |none=>
   simp only [Option.isNone_none,if_true] at hg;split at h
   ·rename_i v σ' hv;exact HG f g hg args σ v σ' hv Q h
   ·exact h.elim
 ·split at h
  ·rename_i fn hf;split at h
   ·rename_i c hb;refine⟨⟨fn,hf,by simp [hb]⟩,fun ρ w args' cs hR ha hdk=> ?_⟩
    have hent:Frame.enter E.P f args' (qgl dk)=atR {(default:Frame) with fn:=f,kind:=qgl dk,roundOf:=none} {tmps:=args'++Array.replicate (fn.ntmps-args'.size) undef,defers:= []} [.code c]:=by
     simp [Frame.enter,atR,hf,hb]
    rw [hent];obtain⟨e,a',σ',ρ',w',ac',hq,hR',hA',hf',ht',harr⟩:=h w.heap.size ρ w _ {(default:Frame) with fn:=f,kind:=qgl dk,roundOf:=none} [] cs (Nat.le_refl _) hR (enter_AR ha) ⟨rfl,trivial,hdk⟩ (λ_=>rfl)
    have hB':w.heap.size≤w'.heap.size:=hf'.size;have hcs:qfn cs (qfu fn args).tk=cs:=rfl;rw [hcs] at harr;have unw:∀(t:List Item) (m m':Option Value),qr3 ρ' m m'→qut E.P ⟨f,none,dk⟩ a' m σ' Q→qq1 w.heap.size E.P (lone {atR {(default:Frame) with fn:=f,kind:=qgl dk,roundOf:=none} ac' t with mode:=qf1 m'} (qfn cs a'.tk) w') f cs dk ρ' σ' w' Q:=
     λt m m' hm hu=>hu w.heap.size ρ' w' ac' {(default:Frame) with fn:=f,kind:=qgl dk,roundOf:=none} t cs m' hB' hR' hA' rfl rfl rfl (hdk.mono hf'.le) hm ht'
    cases e with
    |normal=>exact(unw [] none none trivial hq).pre (Steps.trans harr (.one (st_end rfl))) (hf'.toB (Nat.le_refl _))
    |ret=>
     obtain⟨t,hs⟩:=harr;exact(unw (.code .ret::t) none none trivial hq).pre (Steps.trans hs (.one (st_ret rfl))) (hf'.toB (Nat.le_refl _))
    |panic v=>
     obtain⟨t,v',hv,hs⟩:=harr;exact(unw t (some v) (some v') hv hq).pre hs (hf'.toB (Nat.le_refl _))
    |exit i=>exact hq.elim
    |goto l=>exact hq.elim
   ·exact h.elim
  ·exact h.elim
theorem qka {ρ:Rho} (sz:Nat):∀(ps:List Nat) (as0 bs:List Value) (tm:Tr Value) (tmps:Array Value),LR ρ as0 bs→TmR ρ tm sz tmps→
  TmR ρ ((ps.zip as0).foldl (λt p=>if p.1<sz then t.set p.1 p.2 else t) tm) sz ((ps.zip bs).foldl (λtmps p=>tmps.setIfInBounds p.1 p.2) tmps)
 | [],_,_,tm,tmps,_,h=>by simpa using h
 |p::ps, [], [],tm,tmps,_,h=>by simpa using h
 |p::ps,a::as0,b::bs,tm,tmps,hl,h=>by
  simp only [List.zip_cons_cons,List.foldl_cons];refine qka sz ps as0 bs _ _ hl.tail ⟨by simpa using h.1,λi=> ?_⟩
  rw [qvk,h.1];by_cases hp:p<sz
  ·rw [if_pos hp,Tr.get_set];by_cases hi:i=p
   ·rw [if_pos hi,if_pos ⟨hi,hp⟩];exact hl.head
   ·rw [if_neg hi,if_neg (λe=>hi e.1)];exact h.2 i
  ·rw [if_neg hp,if_neg (λe=>hp e.2)];exact h.2 i
 |_::_, [],_::_,_,_,hl,_=>by have:=hl.1;simp at this
 |_::_,_::_, [],_,_,hl,_=>by have:=hl.1;simp at this
theorem st_begin {b:Frame} {a:Act} {k:List Item} {cs:List Frame} {w w':World} {l:Nat} (hr:b.roundOf=some l) (hb:(Instr.beginRound l).run P w= .ok () w'):
  step P (lone (atR b a (.beginRound::k)) cs w)= .next (lone (atR b a k) cs w'):=
 step_lone_go (by simp [stepG,stepG.exec,stepG.apply,atR,hr,hb,Frame.finish])
theorem qr7 {b:Frame} {a:Act} {t:List Item} {c:Frame} {cs:List Frame} {w w':World} {l:Nat} {v:Value} {j:Option Code} (hr:b.roundOf=some l) (hk:b.kind= .normal) (he:(Instr.endRound l j).run P w= .ok v w')
  (ht:(t= []∧j=none)∨(∃r,t= .code .ret::r∧j=some .ret)∨(∃i r,t= .code (.exit i)::r∧exitTo i r=none∧j=some (.exit i))∨(∃i r,t= .code (.goto i)::r∧gotoIn i r=none∧j=some (.goto i))):
  step P (lone (atR b a t) (c::cs) w)= .next (lone (c.finish v) cs w'):=by
 rcases ht with⟨rfl,rfl⟩|⟨r,rfl,rfl⟩|⟨i,r,rfl,h1,rfl⟩|⟨i,r,rfl,h1,rfl⟩
 ·exact step_lone_go (by simp [stepG,stepG.exec,atR,hr,hk,he,doReturn])
 ·exact step_lone_go (by simp [stepG,stepG.exec,atR,hr,hk,he,doReturn])
 ·exact step_lone_go (by simp [stepG,stepG.exec,atR,hr,hk,he,doReturn,h1])
 ·exact step_lone_go (by simp [stepG,stepG.exec,atR,hr,hk,he,doReturn,h1])
theorem R.setLoop {ρ:Rho} {σ:CSt} {w:World} (h:R P ρ σ w) {l:Nat} {p:Place} (hp:ρ l=some p) {st st':LoopState} {pend pend':Option Code} {fn:FuncId} {tm:Tr Value} {sz:Nat} {ps:Array Tmp} {asg body:Code}
  (hg:σ.get l=some (.loop st pend fn tm sz ps asg body)):∃r:Loop,w.heap[p.b]? =some (.loop r)∧r.state=st∧r.pending=pend∧
   R P ρ (σ.put l (.loop st' pend' fn tm sz ps asg body)) {w with heap:=w.heap.setIfInBounds p.b (.loop {r with state:=st',pending:=pend'})}∧
   Frm ρ σ w ρ (σ.put l (.loop st' pend' fn tm sz ps asg body)) {w with heap:=w.heap.setIfInBounds p.b (.loop {r with state:=st',pending:=pend'})}:=by
 obtain⟨r,h1,h2,h3,h4,h5,h6,h7,h8⟩:=h.obj l _ p hg hp;have hlt:=(Array.getElem?_eq_some_iff.1 h1).1;have wr:=Wr.set w (.loop {r with state:=st',pending:=pend'}) hlt
 have hb:=wr.at_ p.b;rw [if_pos rfl] at hb;exact⟨r,h1,h2,h3,h.write hp ⟨_,hg,rfl,by simp⟩ wr rfl (by simp) ⟨_,hb,rfl,rfl,h4,h5,h6,h7,h8⟩⟩
theorem qyv {E:Env} (G:Good E.P) {l:Nat} {args:Array Value} {σ:CSt} {Q:Out→CSt→Prop} (h:F qg7 E (qj5 E.P) (.round l args) σ Q):qj5 E.P (.round l args) σ Q:=by
 simp only [F] at h;split at h
 case h_2=>exact h.elim
 rename_i st pend fn tm sz ps asg body hg;refine⟨⟨st,pend,fn,tm,sz,ps,asg,body,hg⟩,fun ρ w args' p r c cs hR ha hp hr=> ?_⟩
 split at h
 case isFalse=>exact h.elim
 rename_i hsz;obtain⟨r',h1,h2,h3,h4,h5,h6,h7,h8⟩:=hR.obj l _ p hg hp;rw [hr] at h1;cases h1;refine⟨by rw [←ha.1,hsz,h5], ?_⟩
 --the round's frame
 have hfr:Frame.round p.b r.fn ((r.params.zip args').foldl (λtmps (t,a)=>tmps.setIfInBounds t a) r.tmps) r.assign r.body .normal=
   atR {(default:Frame) with fn:=fn,kind:= .normal,roundOf:=some p.b} {tmps:=(ps.toList.zip args'.toList).foldl (λtmps p=>tmps.setIfInBounds p.1 p.2) r.tmps,defers:= []} (.code asg:: [.beginRound, .code body]):=by
  simp only [Frame.round,atR,h4,h5,h6,h7]
  congr 1
  rw [←Array.foldl_toList,Array.toList_zip]
 rw [hfr];have hA:AR w.heap.size ρ σ w {tm:=(ps.toList.zip args.toList).foldl (λt p=>if p.1<sz then t.set p.1 p.2 else t) tm,sz:=sz,df:= [],tk:=false} {tmps:=(ps.toList.zip args'.toList).foldl (λtmps p=>tmps.setIfInBounds p.1 p.2) r.tmps,defers:= []}:=by
  obtain⟨t1,t2⟩:=qka sz ps.toList args.toList args'.toList tm r.tmps ha.toList h8;exact⟨t1,t2, .nil⟩
 have hF:FrOk ρ ⟨fn,some l,none⟩ {(default:Frame) with fn:=fn,kind:= .normal,roundOf:=some p.b} (c::cs):=⟨rfl,⟨p,hp,rfl⟩,rfl⟩
 obtain⟨e,a₁,σ₁,ρ₁,w₁,ac₁,hq,hR₁,hA₁,hf₁,ht₁,harr⟩:=h w.heap.size ρ w _ {(default:Frame) with fn:=fn,kind:= .normal,roundOf:=some p.b} [.beginRound, .code body] (c::cs) (Nat.le_refl _) hR hA hF (λ_=>rfl)
 cases e with
 |exit i=>exact hq.elim
 |goto i=>exact hq.elim
 |ret=>exact hq.elim
 |panic v=>exact hq.elim
 |normal=>
  simp only at hq;have htk₁:=ht₁ rfl;rw [htk₁] at harr;split at hq
  case h_2=>exact hq.elim
  rename_i pend₁ fn₁ tm₁ sz₁ ps₁ asg₁ body₁ hg₁;have hp₁:ρ₁ l=some p:=hf₁.le _ _ hp;obtain⟨r₁,b1,b2,b3,hR₂,hf₂⟩:=hR₁.setLoop hp₁ (st':= .busy) (pend':=pend₁) hg₁;have hbr:(Instr.beginRound p.b).run E.P w₁= .ok () {w₁ with heap:=w₁.heap.setIfInBounds p.b (.loop {r₁ with state:= .busy,pending:=pend₁})}:=by
   rw [←b3];simp [Instr.beginRound,Instr.getLoop,getObj,setObj,Sem.run,b1,b2]
  have s₂:=Steps.trans harr (.one (st_begin (P:=E.P) (b:={(default:Frame) with fn:=fn,kind:= .normal,roundOf:=some p.b}) (a:=ac₁) (k:= [.code body]) (cs:=c::cs) rfl hbr))
  obtain⟨e,a₂,σ₃,ρ₃,w₃,ac₃,hq₃,hR₃,hA₃,hf₃,ht₃,harr₃⟩:=hq w.heap.size ρ₁ _ ac₁ {(default:Frame) with fn:=fn,kind:= .normal,roundOf:=some p.b} [] (c::cs) (Nat.le_trans hf₁.size hf₂.size) hR₂ (hA₁.frm hf₂) (hF.mono (Rho.le_trans hf₁.le hf₂.le)) ht₁
  have htk₃:=ht₃ rfl;rw [htk₁,htk₃] at harr₃;have hp₃:ρ₃ l=some p:=hf₃.le _ _ hp₁;have hfull:Frm ρ σ w ρ₃ σ₃ w₃:=(hf₁.trans hf₂).trans hf₃
  --it ends
  have leave:∀(j:Option Code) (t:List Item),qgm e=some j→Steps E.P (lone (atR {(default:Frame) with fn:=fn,kind:= .normal,roundOf:=some p.b} ac₁ [.code body]) (c::cs) {w₁ with heap:=w₁.heap.setIfInBounds p.b (.loop {r₁ with state:= .busy,pending:=pend₁})})
    (lone (atR {(default:Frame) with fn:=fn,kind:= .normal,roundOf:=some p.b} ac₃ t) (c::cs) w₃)→
    ((t= []∧j=none)∨(∃r,t= .code .ret::r∧j=some .ret)∨(∃i r,t= .code (.exit i)::r∧exitTo i r=none∧j=some (.exit i))∨(∃i r,t= .code (.goto i)::r∧gotoIn i r=none∧j=some (.goto i)))→
    qt6 E.P (lone (atR {(default:Frame) with fn:=fn,kind:= .normal,roundOf:=some p.b} {tmps:=(ps.toList.zip args'.toList).foldl (λtmps p=>tmps.setIfInBounds p.1 p.2) r.tmps,defers:= []} (.code asg:: [.beginRound, .code body])) (c::cs) w) c cs ρ σ w Q:=by
   intro j t hj hst ht;simp only [hj] at hq₃;split at hq₃
   case h_2=>exact hq₃.elim
   rename_i st₃ pend₃ fn₃ tm₃ sz₃ ps₃ asg₃ body₃ hg₃;obtain⟨r₃,d1,d2,d3,hR₄,hf₄⟩:=hR₃.setLoop hp₃ (st':=if j.isNone then .ready else .done) (pend':=j) hg₃
   have her:(Instr.endRound p.b j).run E.P w₃= .ok (.bool j.isNone) {w₃ with heap:=w₃.heap.setIfInBounds p.b (.loop {r₃ with state:=if j.isNone then .ready else .done,pending:=j})}:=by
    simp [Instr.endRound,Instr.getLoop,getObj,setObj,Sem.run,d1]
   exact .inl ⟨.bool j.isNone,false,_,ρ₃,_, .bool j.isNone,hq₃,hR₄,hfull.trans hf₄, .plain _ rfl,s₂.trans (hst.trans (.one (qr7 rfl rfl her ht)))⟩
  cases e with
  |normal=>exact leave none [] rfl harr₃ (.inl ⟨rfl,rfl⟩)
  |ret=>obtain⟨t,hs⟩:=harr₃;exact leave (some .ret) _ rfl hs (.inr (.inl ⟨t,rfl,rfl⟩))
  |exit i=>obtain⟨t,h1,hs⟩:=harr₃;exact leave (some (.exit i)) _ rfl hs (.inr (.inr (.inl ⟨i,t,rfl,by rw [h1];rfl,rfl⟩)))
  |goto i=>obtain⟨t,h1,hs⟩:=harr₃;exact leave (some (.goto i)) _ rfl hs (.inr (.inr (.inr ⟨i,t,rfl,by rw [h1];rfl,rfl⟩)))
  |panic v=>
   obtain⟨t,v',hv,hs⟩:=harr₃;simp only [qgm] at hq₃;split at hq₃
   case isFalse=>exact hq₃.elim
   rename_i hdf;split at hq₃
   case h_2=>exact hq₃.elim
   rename_i fnn hff;have hdf':a₂.df= []:=by simpa using hdf
   have hd₃:=hA₃.df;rw [hdf'] at hd₃;obtain⟨w₄,l'',s₄,hR₄,hf₄,hd₄,hno⟩:=qjz (P:=E.P) ac₃.defers hd₃ {atR {(default:Frame) with fn:=fn,kind:= .normal,roundOf:=some p.b} ac₃ t with mode:=qhp v'} (c::cs) (by simp [qhp]) rfl hR₃
   have hl:l''= []:=by
    cases hd₄ with
    |nil=>rfl
    |mark q l l' h hn t=>exact absurd rfl (hno q #[] l')
   subst hl;have hfB:FrmB w.heap.size ρ σ w ρ₃ σ₃ w₄:=(hfull.toB (Nat.le_refl _)).trans hf₄;exact .inr ⟨v,σ₃,ρ₃,w₄,v',hq₃,hR₄,hfB.toFrm,hv,s₂.trans (hs.trans (s₄.trans (.one (qf9 rfl rfl hff))))⟩
theorem qmo {b:Frame} {a:Act} {k:List Item} {cs:List Frame} {w w₁:World} {f:Operand} {ps:Array Tmp} {asg body:Code} {l:Nat} {mark:List Deferred} {g:FuncId} {as0:Array Value}
  (he:(Instr.enterLoop b.fn a.tmps ps asg body b.roundOf).run P w= .ok (l,mark) w₁) (hc:(do let d ←Deferred.ofValue (a.eval f) #[.func (.yield l) #[] #[]];invoke d.target d.args).run P w₁= .ok (.enter g as0) w₁):
  step P (lone (atR b a (.code (.rangeFunc f ps asg body)::k)) cs w)= .next (lone (Frame.enter P g as0 .normal) (atR b {a with defers:=mark++a.defers} (.inRangeFunc l::k)::cs) w₁):=by
 refine step_lone_go ?_;have hev:({atR b a (.code (.rangeFunc f ps asg body)::k) with todo:= .inRangeFunc l::k,defers:=mark++a.defers}:Frame).eval=a.eval:=by funext x;cases x<;>rfl
 simp only [atR] at hev;have hc':((do let d ←resolve a.eval {callee:= .value f,args:= #[.const (.func (.yield l) #[] #[])],argTypes:= #[]} 0;invoke d.target d.args):Sem Next).run P w₁= .ok (.enter g as0) w₁:=by
  simpa [resolve,Act.eval] using hc
 simp only [stepG,stepG.exec,atR,Sem.runT_eq,he,GStep.bare_after,stepG.apply,hev,hc'];simp
end
section
variable {P:Program}
theorem qmh {b:Frame} {a:Act} {k:List Item} {cs:List Frame} {w w₁:World} {f:Operand} {ps:Array Tmp} {asg body:Code} {l:Nat} {mark:List Deferred} {l':Nat} {g:FuncId} {tmps:Array Value} {asg' body':Code}
  (he:(Instr.enterLoop b.fn a.tmps ps asg body b.roundOf).run P w= .ok (l,mark) w₁) (hc:(do let d ←Deferred.ofValue (a.eval f) #[.func (.yield l) #[] #[]];invoke d.target d.args).run P w₁= .ok (.round l' g tmps asg' body') w₁):
  step P (lone (atR b a (.code (.rangeFunc f ps asg body)::k)) cs w)= .next (lone (Frame.round l' g tmps asg' body' .normal) (atR b {a with defers:=mark++a.defers} (.inRangeFunc l::k)::cs) w₁):=by
 refine step_lone_go ?_;have hev:({atR b a (.code (.rangeFunc f ps asg body)::k) with todo:= .inRangeFunc l::k,defers:=mark++a.defers}:Frame).eval=a.eval:=by funext x;cases x<;>rfl
 simp only [atR] at hev;have hc':((do let d ←resolve a.eval {callee:= .value f,args:= #[.const (.func (.yield l) #[] #[])],argTypes:= #[]} 0;invoke d.target d.args):Sem Next).run P w₁= .ok (.round l' g tmps asg' body') w₁:=by
  simpa [resolve,Act.eval] using hc
 simp only [stepG,stepG.exec,atR,Sem.runT_eq,he,GStep.bare_after,stepG.apply,hev,hc'];simp
theorem qrr {b:Frame} {a:Act} {k:List Item} {cs:List Frame} {w w':World} {l:Nat} {j:Option Code} (he:(Instr.endLoop l).run P w= .ok j w'):
  step P (lone (atR b a (.endRangeFunc l::k)) cs w)= .next (lone (atR b a ((j.map Item.code).toList++k)) cs w'):=
 step_lone_go (by simp [stepG,stepG.exec,atR,he])
theorem zag {E:Env} (G:Good E.P) {x:Ctx} {f:Operand} {ps:Array Tmp} {asg body:Code} {a:CAct} {σ:CSt} {Q:Out→CSt→Prop}
  (h:F qg7 E (qj5 E.P) (.code x (.rangeFunc f ps asg body) a) σ Q):qf4 E.P x a σ (λk=> .code (.rangeFunc f ps asg body)::k) Q:=by
 simp only [F] at h;split at h
 ·exact h.elim
 rename_i haround;intro B ρ w ac b k cs hB hR hA hF ht
 --the loop's record,perhaps behind a block for deferred calls
 have enter:∃(w₁:World) (p:Place) (mark:List Deferred),(Instr.enterLoop b.fn ac.tmps ps asg body b.roundOf).run E.P w= .ok (p.b,mark) w₁∧
   R E.P (ρ.set σ.n p) (σ.alloc (.loop .ready none x.f a.tm a.sz ps asg body)) w₁∧Frm ρ σ w (ρ.set σ.n p) (σ.alloc (.loop .ready none x.f a.tm a.sz ps asg body)) w₁∧
   AR B (ρ.set σ.n p) (σ.alloc (.loop .ready none x.f a.tm a.sz ps asg body)) w₁ a {ac with defers:=mark++ac.defers}:=by
  --the record itself
  have rec_:∀(w₀:World) (d:Nat),R E.P ρ σ w₀→TmR ρ a.tm a.sz ac.tmps→
    R E.P (ρ.set σ.n ⟨w₀.heap.size,0,0,0⟩) (σ.alloc (.loop .ready none x.f a.tm a.sz ps asg body)) {w₀ with heap:=w₀.heap.push (.loop {state:= .ready,pending:=none,fn:=b.fn,tmps:=ac.tmps,params:=ps,assign:=asg,body:=body,defers:=d})}∧
    Frm ρ σ w₀ (ρ.set σ.n ⟨w₀.heap.size,0,0,0⟩) (σ.alloc (.loop .ready none x.f a.tm a.sz ps asg body)) {w₀ with heap:=w₀.heap.push (.loop {state:= .ready,pending:=none,fn:=b.fn,tmps:=ac.tmps,params:=ps,assign:=asg,body:=body,defers:=d})}:=
   λw₀ d hR₀ htm=>hR₀.newObj (fun ρ' hle w' hw=>⟨_,hw,rfl,rfl,hF.fn,rfl,rfl,rfl,htm.mono hle⟩)
  have htm:TmR ρ a.tm a.sz ac.tmps:=⟨hA.sz,hA.tm⟩;cases hrn:b.roundOf with
  |some r=>
   have hxr:∃l p,x.rnd=some l∧ρ l=some p∧p.b=r:=by
    have:=hF.rnd;rw [hrn] at this;cases hx:x.rnd with
    |none=>rw [hx] at this;exact this.elim
    |some l=>rw [hx] at this;obtain⟨p,h1,h2⟩:=this;exact⟨l,p,rfl,h1,h2⟩
   obtain⟨l,p,hx,hp,hpr⟩:=hxr;have hloop:∃r':Loop,w.heap[p.b]? =some (.loop r'):=by
    rw [hx] at haround;simp only [qdc] at haround;split at haround
    ·rename_i hg;obtain⟨r',g1,_⟩:=hR.obj l _ p hg hp;exact⟨r',g1⟩
    ·simp at haround
   obtain⟨r',hr'⟩:=hloop;obtain⟨hR₁,hf₁⟩:=rec_ w r'.defers hR htm;refine⟨_,_, [], ?_,hR₁,hf₁,hA.frm hf₁⟩;rw [←hpr];have hgl:(Instr.getLoop p.b).run E.P w= .ok r' w:=by simp [Instr.getLoop,getObj,Sem.run,hr']
   simp only [Instr.enterLoop,Sem.run_bind,hgl,Result.andThen_ok,Sem.run_pure,run_newObj]
  |none=>
   have wr:=Wr.push w (.deferred (some []));obtain⟨hR₀,hf₀⟩:=hR.beyond wr;obtain⟨hR₁,hf₁⟩:=rec_ {w with heap:=w.heap.push (.deferred (some []))} w.heap.size hR₀ htm
   refine⟨_,_, [{target:= .collected w.heap.size,args:= #[]}], ?_,hR₁,hf₀.trans hf₁, ?_⟩
   ·simp only [Instr.enterLoop,Sem.run_bind,Result.andThen_ok,Sem.run_pure,run_newObj]
   ·have hA₁:=hA.frm (hf₀.trans hf₁);refine⟨hA₁.sz,hA₁.tm, ?_⟩;refine .mark _ _ _ ⟨?_,hB,λi p hp hr=> ?_⟩ ?_ hA₁.df
    ·simp [Array.getElem?_push]
    ·by_cases e:i=σ.n
     ·subst e;rw [Rho.set_self] at hp;cases hp;simp
     ·have:(ρ.set σ.n ⟨(w.heap.push (Obj.deferred (some []))).size,0,0,0⟩) i=ρ i:=by unfold Rho.set;rw [if_neg e]
      rw [this] at hp;rw [qiv,if_neg e] at hr;have:=hR.lt i p hp (qcq hr);omega
    ·--other marks are older
     intro d hd q hq hqe;have old:∀{l:List CDef} {l':List Deferred},DfR B ρ σ w l l'→∀d∈l',∀q,d.target= .collected q→q<w.heap.size:=by
      intro l l' hdf
      induction hdf with
      |nil=>intro d hd;cases hd
      |cons d d' l l' h _ ih=>
       intro e he q hq;rcases List.mem_cons.1 he with rfl|he
       ·obtain⟨g,fs,cs',bs,ds,as0',h1,h2,h3,h4,h5⟩:=h;rw [h5] at hq;cases hq
       ·exact ih e he q hq
      |mark r l l' h hn _ ih=>
       intro e he q hq;rcases List.mem_cons.1 he with rfl|he
       ·cases hq;exact(Array.getElem?_eq_some_iff.1 h.1).1
       ·exact ih e he q hq
     have:=old hA.df d hd q hq;omega
 obtain⟨w₁,p,mark,hen,hR₁,hf₁,hA₁⟩:=enter;have hyv:VR (ρ.set σ.n p) (.func (.yield σ.n) #[] #[]) (.func (.yield p.b) #[] #[]):= .func _ _ _ _ _ _ (.yield σ.n p (Rho.set_self ..)) rfl (λi u=>by simp at u) rfl (λi u=>by simp at u)
 have hargs:AsR (ρ.set σ.n p) #[.func (.yield σ.n) #[] #[]] #[.func (.yield p.b) #[] #[]]:=⟨rfl,λi u _=>by
  have:i=0:=by simp at u;omega
  subst this
  exact hyv⟩
 have hfv:VR (ρ.set σ.n p) (a.eval f) (ac.eval f):=(hA.eval hR f).mono hf₁.le;have hev:({ac with defers:=mark++ac.defers}:Act).eval=ac.eval:=by funext y;cases y<;>rfl
 --behind the call
 have fin:∀m,Steps E.P (lone (atR b ac (.code (.rangeFunc f ps asg body)::k)) (qfn cs a.tk) w) m→
   qt6 E.P m (atR b {ac with defers:=mark++ac.defers} (.inRangeFunc p.b::k)) (qfn cs a.tk) (ρ.set σ.n p) (σ.alloc (.loop .ready none x.f a.tm a.sz ps asg body)) w₁ (λo σ'=>match o with
    | .ret _ _=>(match σ'.get σ.n with
     |some (.loop st pend fn tm sz ps asg body)=>if st= .busy then False else(match pend with
      |none=>Q (.code .normal a) (σ'.put σ.n (.loop .exhausted pend fn tm sz ps asg body))
      |some c=>qj5 E.P (.code x c a) (σ'.put σ.n (.loop .exhausted pend fn tm sz ps asg body)) Q)
     |_=>False)
    | .pan v=>Q (.code (.panic v) a) σ'
    |_=>False)→
   ∃(e:CEx) (a':CAct) (σ':CSt) (ρ':Rho) (w':World) (ac':Act),Q (.code e a') σ'∧R E.P ρ' σ' w'∧AR B ρ' σ' w' a' ac'∧Frm ρ σ w ρ' σ' w'∧(x.dk=none→a'.tk=false)∧
    qw9 E.P (lone (atR b ac (.code (.rangeFunc f ps asg body)::k)) (qfn cs a.tk) w) b k (qfn cs a'.tk) ρ' ac' w' e:=by
  intro m hm hp';rcases hp' with⟨v,tk,σ',ρ',w',v',hq,hR',hf',hv,hs⟩|⟨v,σ',ρ',w',v',hq,hR',hf',hv,hs⟩
  ·have hfi:(atR b {ac with defers:=mark++ac.defers} (.inRangeFunc p.b::k)).finish v'=atR b {ac with defers:=mark++ac.defers} (.endRangeFunc p.b::k):=rfl
   rw [hfi] at hs;simp only at hq;split at hq
   case h_2=>exact hq.elim
   rename_i st pend fn tm sz ps' asg' body' hg;split at hq
   ·exact hq.elim
   ·rename_i hnb;have hpn:ρ' σ.n=some p:=hf'.le _ _ (Rho.set_self ..);obtain⟨r,d1,d2,d3,hR₂,hf₂⟩:=hR'.setLoop hpn (st':= .exhausted) (pend':=pend) hg;have hel:(Instr.endLoop p.b).run E.P w'= .ok pend {w' with heap:=w'.heap.setIfInBounds p.b (.loop {r with state:= .exhausted,pending:=pend})}:=by
     have hb:¬r.state= .busy:=by rw [d2];exact hnb
     rw [←d3];simp [Instr.endLoop,Instr.getLoop,getObj,setObj,Sem.run,d1,hb]
    have hst:=qrr (P:=E.P) (b:=b) (a:={ac with defers:=mark++ac.defers}) (k:=k) (cs:=qfn cs a.tk) hel
    have hA₂:=(hA₁.frm hf').frm hf₂;have hfall:=(hf₁.trans hf').trans hf₂;cases hpd:pend with
    |none=>
     rw [hpd] at hq hst hR₂ hA₂ hfall;exact⟨.normal,a,_,ρ',_,_,hq,hR₂,hA₂,hfall,ht,hm.trans (hs.trans (.one hst))⟩
    |some c=>
     rw [hpd] at hq hst hR₂ hA₂ hfall;obtain⟨e₂,a₂,σ₂,ρ₂,w₂,ac₂,hq₂,hR₃,hA₃,hf₃,ht₃,harr⟩:=hq B ρ' _ _ b k cs (Nat.le_trans hB hfall.size) hR₂ hA₂ (hF.mono hfall.le) ht;exact⟨e₂,a₂,σ₂,ρ₂,w₂,ac₂,hq₂,hR₃,hA₃,hfall.trans hf₃,ht₃, .of_steps (hm.trans (hs.trans (.one hst))) harr⟩
  ·exact⟨.panic v,a,σ',ρ',w',{ac with defers:=mark++ac.defers},hq,hR',hA₁.frm hf',hf₁.trans hf',ht, .inRangeFunc p.b::k,v',hv,hm.trans hs⟩
 rcases qr9 G h hR₁ hfv hargs with⟨g,as0,hr,hp⟩|⟨l,g,tmps,asg',body',hr,hp⟩
 ·exact fin _ (.one (qmo hen hr)) (hp _ _)
 ·exact fin _ (.one (qmh hen hr)) (hp _ _)
end
theorem qee {α β:Type} {f g:α→β} (as0:Array α) (h:∀x∈as0,f x=g x):as0.map f=as0.map g:=Array.map_congr_left h
section
variable {P:Program} {σ:CSt} {ev ev':Operand→Value} {o:Oper}
theorem qk7 (hs:∀cs b,o.op≠ .select cs b) (h:∀x∈o.op.operands,ev x=ev' x):qbc P σ ev o=qbc P σ ev' o:=by
 unfold qbc;rw [execOp_congr o hs h];have:(o.op.operands.toList.all λx=>flat (ev x))=(o.op.operands.toList.all λx=>flat (ev' x)):=by
  rw [Bool.eq_iff_iff];simp only [List.all_eq_true];exact⟨λhh x hx=>by rw [←h x (by simpa using hx)];exact hh x hx,λhh x hx=>by rw [h x (by simpa using hx)];exact hh x hx⟩
 rw [this]
theorem qr0 {c:Call} (hop:o.op= .call c) (h:∀x∈o.op.operands,ev x=ev' x):qbs P σ ev o c=qbs P σ ev' o c:=by
 have hf:=qk7 (P:=P) (σ:=σ) (by rw [hop];intros;simp) h
 have hargs:c.args.map ev=c.args.map ev':=qee _ λx hx=>h x (by rw [hop];simp [Op.operands,Call.operands,hx])
 unfold qbs;rw [hargs];cases hc:c.callee with
 |value f=>simp only;rw [h f (by rw [hop];simp [Op.operands,Call.operands,hc])]
 |invoke r n=>rfl
 |builtin b=>simp only;split<;>first|rfl|exact hf
theorem qpg (h:∀x∈o.op.operands,ev x=ev' x):cop P σ ev o=cop P σ ev' o:=by
 have hfl:=λhs=>qk7 (P:=P) (σ:=σ) (ev:=ev) (ev':=ev') (o:=o) hs h
 unfold cop;cases hop:o.op with
 |move x=>simp only;rw [h x (by rw [hop];simp [Op.operands])]
 |assign x=>simp only;rw [h x (by rw [hop];simp [Op.operands])]
 |pick c a b=>simp only;rw [h c (by rw [hop];simp [Op.operands]),h a (by rw [hop];simp [Op.operands]),h b (by rw [hop];simp [Op.operands])]
 |alloc e=>rfl
 |box e x=>simp only;rw [h x (by rw [hop];simp [Op.operands])]
 |build t ps=>simp only;rw [qee (f:=λp:Nat×Operand=>(p.1,ev p.2)) (g:=λp=>(p.1,ev' p.2)) ps λp hp=>by rw [h p.2 (by rw [hop];simp [Op.operands];exact⟨p.1,hp⟩)]]
 |buildSlice t n ps=>simp only;rw [qee (f:=λp:Nat×Operand=>(p.1,ev p.2)) (g:=λp=>(p.1,ev' p.2)) ps λp hp=>by rw [h p.2 (by rw [hop];simp [Op.operands];exact⟨p.1,hp⟩)]]
 |load t a=>simp only;rw [h a (by rw [hop];simp [Op.operands])]
 |store t a x=>simp only;rw [h a (by rw [hop];simp [Op.operands]),h x (by rw [hop];simp [Op.operands])]
 |nilCheck x=>simp only;rw [h x (by rw [hop];simp [Op.operands])]
 |binOp op t x y u=>simp only;rw [h x (by rw [hop];simp [Op.operands]),h y (by rw [hop];simp [Op.operands]),hfl (by rw [hop];intros;simp)]
 |unOp op t x=>simp only;rw [hfl (by rw [hop];intros;simp)]
 |convert s d x=>simp only;rw [h x (by rw [hop];simp [Op.operands]),hfl (by rw [hop];intros;simp)]
 |makeInterface t x=>simp only;rw [h x (by rw [hop];simp [Op.operands])]
 |makeFunc fn fs cs=>simp only;rw [qee fs λx hx=>h x (by rw [hop];simp [Op.operands,hx]),qee cs λx hx=>h x (by rw [hop];simp [Op.operands,hx])]
 |makeMap t r=>
  cases r with
  |none=>rfl
  |some r=>simp only;rw [h r (by rw [hop];simp [Op.operands])]
 |makeSlice t l c=>simp only;rw [h l (by rw [hop];simp [Op.operands]),h c (by rw [hop];simp [Op.operands])]
 |slice t x lo hi mx=>
  simp only;have om:∀(z:Option Operand),(∀y,z=some y→y∈o.op.operands)→z.map ev=z.map ev':=λz hz=>by
   cases z with
   |none=>rfl
   |some y=>simp [h y (hz y rfl)]
  rw [h x (by rw [hop];simp [Op.operands]),om lo (λy hy=>by rw [hop];simp [Op.operands,hy]),om hi (λy hy=>by rw [hop];simp [Op.operands,hy]),om mx (λy hy=>by rw [hop];simp [Op.operands,hy]),hfl (by rw [hop];intros;simp)]
 |fieldAddr s x f=>simp only;rw [h x (by rw [hop];simp [Op.operands])]
 |field t x f=>simp only;rw [h x (by rw [hop];simp [Op.operands])]
 |indexAddr t x ix=>simp only;rw [h x (by rw [hop];simp [Op.operands]),h ix (by rw [hop];simp [Op.operands])]
 |index t x ix=>simp only;rw [hfl (by rw [hop];intros;simp)]
 |lookup t m k ok=>simp only;rw [h m (by rw [hop];simp [Op.operands]),h k (by rw [hop];simp [Op.operands])]
 |mapUpdate t m k x=>simp only;rw [h m (by rw [hop];simp [Op.operands]),h k (by rw [hop];simp [Op.operands]),h x (by rw [hop];simp [Op.operands])]
 |insert t m k x=>simp only;rw [h m (by rw [hop];simp [Op.operands]),h k (by rw [hop];simp [Op.operands]),h x (by rw [hop];simp [Op.operands])]
 |range t x=>simp only;rw [h x (by rw [hop];simp [Op.operands])]
 |next it s=>simp only;rw [h it (by rw [hop];simp [Op.operands])]
 |entry it=>simp only;rw [h it (by rw [hop];simp [Op.operands])]
 |typeAssert x t as0 ok=>simp only;rw [h x (by rw [hop];simp [Op.operands])]
 |extract t i=>simp only;rw [h t (by rw [hop];simp [Op.operands])]
 |call c=>simp only;exact qr0 hop h
 |defer c=>
  simp only;cases hc:c.callee with
  |value f=>
   simp only;rw [h f (by rw [hop];simp [Op.operands,Call.operands,hc]),qee c.args λx hx=>h x (by rw [hop];simp [Op.operands,Call.operands,hx])]
  |_=>rfl
 |panic x=>simp only;rw [h x (by rw [hop];simp [Op.operands])]
 |_=>rfl
theorem qcj {v:Value} {σ':CSt} (h:qbc P σ ev o= .val v σ'):σ'=σ:=by
 unfold qbc at h;split at h
 ·split at h
  ·split at h
   ·cases h;rfl
   ·cases h
  ·cases h
 ·cases h
theorem qgj {x:Option Value} {v:Value} {σ':CSt} (h:OpR.ofV σ x= .val v σ'):σ'=σ:=(qdu h).2
theorem qhq {σ₂:CSt} {v:Value} {σ':CSt} (h:qbc P σ ev o= .val v σ'):qbc P σ₂ ev o= .val v σ₂:=by
 unfold qbc at h⊢;split at h
 ·rename_i hc;rw [if_pos hc];split at h
  ·rename_i u hu;split at h
   ·rename_i hf;cases h;simp only [hu,if_pos hf]
   ·cases h
  ·cases h
 ·cases h
theorem ql0 (he:qab P o=false) {v:Value} {σ':CSt} (h:cop P σ ev o= .val v σ'):σ'=σ:=by
 unfold cop at h;unfold qab at he;cases hop:o.op with
 |move x=>rw [hop] at h;cases h;rfl
 |assign x=>rw [hop] at h;cases h;rfl
 |pick c a b=>rw [hop] at h;simp only at h;split at h<;>cases h;rfl
 |build t ps=>rw [hop] at h;exact qgj h
 |load t a=>rw [hop] at h;exact qgj h
 |nilCheck x=>rw [hop] at h;simp only at h;split at h<;>cases h<;>rfl
 |binOp op t x y u=>
            rw [hop] at h;simp only at h;split at h
            ·cases h;rfl
            ·exact qcj h
 |unOp op t x=>rw [hop] at h;exact qcj h
 |convert s d x=>
  rw [hop] at h he;simp only at h he;rcases que h with h|⟨_,h⟩
  ·unfold qd9 at h;split at h
   ·split at h<;>cases h;rfl
   ·split at h
    ·split at h<;>cases h;rfl
    ·cases h
   ·rename_i hs hd _;rw [hd] at he;simp at he
   ·rename_i hs hd _;rw [hd] at he;simp at he
   ·cases h
  ·exact qcj h
 |makeInterface t x=>rw [hop] at h;simp only at h;split at h<;>cases h;rfl
 |makeFunc fn fs cs=>rw [hop] at h;simp only at h;split at h<;>cases h;rfl
 |slice t x lo hi mx=>
  rw [hop] at h;rcases que h with h|⟨_,h⟩
  ·exact qgj h
  ·exact qcj h
 |fieldAddr s x f=>rw [hop] at h;exact qgj h
 |field t x f=>rw [hop] at h;exact qgj h
 |indexAddr t x ix=>rw [hop] at h;exact qgj h
 |index t x ix=>rw [hop] at h;exact qcj h
 |lookup t m k ok=>rw [hop] at h;exact qgj h
 |entry it=>rw [hop] at h;exact qgj h
 |typeAssert x t as0 ok=>rw [hop] at h;exact qgj h
 |extract t i=>
          rw [hop] at h;simp only at h;split at h
          ·exact qgj h
          ·cases h
 |call c=>
  rw [hop] at h he;simp only at h he;unfold qbs at h;split at h
  ·cases h
  ·cases h
  ·rename_i b hb;rw [hb] at he;split at h
   ·exact qgj h
   ·simp at he
   ·simp at he
   ·simp at he
   ·simp at he
   ·exact qcj h
   ·split at h
    ·exact absurd h za7
    ·split at h
     ·split at h<;>cases h;rfl
     ·cases h
   ·cases h
   ·exact qcj h
   ·exact qcj h
   ·exact qcj h
   ·exact qcj h
   ·exact qcj h
   ·cases h
 |_=>rw [hop] at h he;simp at he<;>(first|(simp at h;done)|skip)
theorem cop_move (he:qab P o=false) (hr:qa9 o=false) {v:Value} {σ' σ₂:CSt} (h:cop P σ ev o= .val v σ'):cop P σ₂ ev o= .val v σ₂:=by
 have ov:∀{x:Option Value},OpR.ofV σ x= .val v σ'→OpR.ofV σ₂ x= .val v σ₂:=λhx=>by rw [(qdu hx).1];rfl
 unfold cop at h⊢;unfold qab at he;unfold qa9 at hr;cases hop:o.op with
 |move x=>rw [hop] at h;cases h;rfl
 |assign x=>rw [hop] at h;cases h;rfl
 |pick c a b=>rw [hop] at h;simp only at h⊢;split at h<;>cases h;rename_i hc;simp only [hc]
 |build t ps=>rw [hop] at h;exact ov h
 |nilCheck x=>rw [hop] at h;simp only at h⊢;split at h<;>cases h<;>(rename_i hc;simp only [hc])
 |binOp op t x y u=>
            rw [hop] at h;simp only at h⊢;split at h
            ·rename_i hc;cases h;simp only [hc]
            ·exact qhq h
 |unOp op t x=>rw [hop] at h;exact qhq h
 |makeInterface t x=>
  rw [hop] at h;simp only at h⊢;split at h
  ·cases h
  ·cases h
  ·rename_i hn hc;cases h
   rfl
 |makeFunc fn fs cs=>
  rw [hop] at h;simp only at h⊢;split at h
  ·cases h
  ·cases h
   rfl
 |fieldAddr s x f=>rw [hop] at h;exact ov h
 |field t x f=>rw [hop] at h;exact ov h
 |indexAddr t x ix=>rw [hop] at h;exact ov h
 |index t x ix=>rw [hop] at h;exact qhq h
 |typeAssert x t as0 ok=>rw [hop] at h;exact ov h
 |extract t i=>
          rw [hop] at h;simp only at h⊢;split at h
          ·exact ov h
          ·cases h
 |_=>rw [hop] at h he hr;simp at he hr<;>(first|(simp at h;done)|skip)
end
def qzk (ops:Array Oper) (b:Array Nat):List Nat→List Nat→Prop
 |dn, []=>∀i,i<ops.size→i∈dn
 |dn,i::rest=>i<ops.size∧i∉dn∧(∀j,qa3 b i j=true→j∈dn)∧qzk ops b (i::dn) rest
theorem qrq (A:Array Nat) (j:Nat):∀(l:List Edge) (s:Nat),(l.foldl (λs e=>if Region.binds .any e then s|||2^e.on|||A.getD e.on 0 else s) s).testBit j=true→
  s.testBit j=true∨∃e∈l,Region.binds .any e=true∧(e.on=j∨(A.getD e.on 0).testBit j=true)
 | [],s,h=> .inl h
 |e::l,s,h=>by
  rw [List.foldl_cons] at h;rcases qrq A j l _ h with h1|⟨e',h1,h2⟩
  ·by_cases hb:Region.binds .any e=true
   ·rw [if_pos hb,Nat.testBit_or,Nat.testBit_or,Bool.or_eq_true,Bool.or_eq_true] at h1;rcases h1 with(h1|h1)|h1
    ·exact .inl h1
    ·rw [Nat.testBit_two_pow] at h1;exact .inr ⟨e,by simp,hb, .inl (by simpa using h1)⟩
    ·exact .inr ⟨e,by simp,hb, .inr h1⟩
   ·rw [if_neg hb] at h1;exact .inl h1
  ·exact .inr ⟨e',by simp [h1],h2⟩
theorem qzg:∀(l pre:List Oper) (A:Array Nat),A.size=pre.length→
  (∀i j,(A.getD i 0).testBit j=true→∃o,pre[i]? =some o∧∃e∈o.after.toList,Region.binds .any e=true∧(e.on=j∨(A.getD e.on 0).testBit j=true))→
  let A':=l.foldl (λacc o=>acc.push (o.after.foldl (λs e=>if Region.binds .any e then s|||2^e.on|||acc.getD e.on 0 else s) 0)) A
  ∀i j,(A'.getD i 0).testBit j=true→∃o,(pre++l)[i]? =some o∧∃e∈o.after.toList,Region.binds .any e=true∧(e.on=j∨(A'.getD e.on 0).testBit j=true)
 | [],pre,A,hs,h=>by simpa using h
 |o::l,pre,A,hs,h=>by
  simp only [List.foldl_cons];have:=qzg l (pre++ [o]) (A.push (o.after.foldl (λs e=>if Region.binds .any e then s|||2^e.on|||A.getD e.on 0 else s) 0)) (by simp [hs]) ?_
  ·simpa using this
  ·intro i j hij;have hget:∀k x,(A.push x).getD k 0=if k=A.size then x else A.getD k 0:=by
    intro k x;rw [Array.getD_eq_getD_getElem?,Array.getD_eq_getD_getElem?,Array.getElem?_push];by_cases hk:k=A.size
    ·simp [hk]
    ·simp [hk]
   have hup:∀k x,(A.getD k 0).testBit j=true→((A.push x).getD k 0).testBit j=true:=by
    intro k x hk;rw [hget,if_neg]
    ·exact hk
    ·intro e;rw [e] at hk;simp at hk
   rw [hget] at hij;by_cases hi:i=A.size
   ·rw [if_pos hi,←Array.foldl_toList] at hij;rcases qrq A j _ _ hij with h1|⟨e,h1,h2,h3⟩
    ·simp at h1
    ·exact⟨o,by simp [hi,hs],e,h1,h2,h3.imp id (hup _ _)⟩
   ·rw [if_neg hi] at hij;obtain⟨o',h1,e,h2,h3,h4⟩:=h i j hij;have hlt:=(List.getElem?_eq_some_iff.1 h1).1;exact⟨o',by rw [List.getElem?_append_left hlt];exact h1,e,h2,h3,h4.imp id (hup _ _)⟩
theorem bef_edge {ops:Array Oper} {i j:Nat} (h:qa3 (Region.before ops) i j=true):
  ∃o,ops[i]? =some o∧∃e∈o.after,Region.binds .any e=true∧(e.on=j∨qa3 (Region.before ops) e.on j=true):=by
 unfold qa3 Region.before at*;rw [←Array.foldl_toList] at*;have:=qzg ops.toList [] #[] rfl (by intro i j h;simp at h) i j h
 obtain⟨o,h1,e,h2,h3⟩:=this;exact⟨o,by simpa using h1,e,by simpa using h2,h3⟩
theorem go_ord {ops:Array Oper} (hback:∀i o,ops[i]? =some o→∀e∈o.after,Region.binds .any e=true→e.on<i):
  ∀(fuel t:Nat) (listed:Array Bool) (dn:List Nat),listed.size=ops.size→fuel+dn.length=ops.size→dn.Nodup→(∀i∈dn,i<ops.size)→(∀i,i<ops.size→(listed.getD i true=true↔i∈dn))→
   (∀i∈dn,∀j,qa3 (Region.before ops) i j=true→j∈dn)→qzk ops (Region.before ops) dn (Region.linearise.go .any ops fuel t listed [])
 |0,t,listed,dn,hs,hf,hn,hr,hl,hc=>by
  simp only [Region.linearise.go,List.reverse_nil,qzk];intro i hi;have hsub:dn⊆List.range ops.size:=λk hk=>List.mem_range.2 (hr k hk)
  by_cases hmem:i∈dn
  ·exact hmem
  ·exfalso;have h1:(i::dn).Nodup:=List.nodup_cons.2 ⟨hmem,hn⟩;have h2:(i::dn)⊆List.range ops.size:=λk hk=>by
    rcases List.mem_cons.1 hk with rfl|hk
    ·exact List.mem_range.2 hi
    ·exact hsub hk
   have:=List.Nodup.length_le_of_subset h1 h2;simp at this;omega
 |fuel+1,t,listed,dn,hs,hf,hn,hr,hl,hc=>by
  simp only [Region.linearise.go]
  change qzk ops _ dn (match(Region.ready .any ops listed)[t %(Region.ready .any ops listed).length]? with
   |some i=>Region.linearise.go .any ops fuel (t/(Region.ready .any ops listed).length) (listed.setIfInBounds i true) [i]
   |none=> [].reverse)
  cases hi:(Region.ready .any ops listed)[t %(Region.ready .any ops listed).length]? with
  |none=>
   exfalso;have hnil:Region.ready .any ops listed= []:=by
    cases hr:Region.ready .any ops listed with
    |nil=>rfl
    |cons x xs=>
     rw [hr] at hi;have hlt:t %(x::xs).length<(x::xs).length:=Nat.mod_lt _ (by simp)
     simp at hi;simp at hlt;omega
   --the least one not yet listed is ready
   have hex:∃i,i<ops.size∧i∉dn:=by
    apply Classical.byContradiction;intro hne;have hall:∀i,i<ops.size→i∈dn:=λi hi=>Classical.byContradiction λh=>hne ⟨i,hi,h⟩
    have h1:(List.range ops.size).Nodup:=List.nodup_range;have:=List.Nodup.length_le_of_subset h1 (λk hk=>hall k (List.mem_range.1 hk))
    simp at this;omega
   have hleast:∀n i,i≤n→i<ops.size→i∉dn→∃k,k<ops.size∧k∉dn∧∀j,j<k→j∈dn:=by
    intro n
    induction n with
    |zero=>intro i h1 h2 h3;exact⟨i,h2,h3,λj hj=>by omega⟩
    |succ n ih=>
     intro i h1 h2 h3;by_cases hh:∀j,j<i→j∈dn
     ·exact⟨i,h2,h3,hh⟩
     ·have:∃j,j<i∧j∉dn:=Classical.byContradiction λhne=>hh λj hj=>Classical.byContradiction λh=>hne ⟨j,hj,h⟩
      obtain⟨j,h4,h5⟩:=this;exact ih j (by omega) (by omega) h5
   obtain⟨i0,hi0,hi1⟩:=hex;obtain⟨k,hk1,hk2,hk3⟩:=hleast i0 i0 (Nat.le_refl _) hi0 hi1;have:k∈Region.ready .any ops listed:=by
    rw [mem_ready];refine⟨?_,ops[k],by simp [hk1],λe he hb=> ?_⟩
    ·cases hx:listed.getD k true
     ·rfl
     ·exact absurd ((hl k hk1).1 hx) hk2
    ·have hlt:=hback k ops[k] (by simp [hk1]) e he hb
     have:=(hl e.on (by omega)).2 (hk3 _ hlt)
     rw [Array.getD_eq_getD_getElem?] at this⊢;rw [Array.getElem?_eq_getElem (by omega:e.on<listed.size)] at this⊢
     exact this
   rw [hnil] at this;cases this
  |some i=>
   simp only [];rw [linearise_go_acc,List.reverse_singleton,List.singleton_append];have hm:=List.mem_of_getElem? hi;rw [mem_ready] at hm;obtain⟨h0,o,ho,he⟩:=hm;have hlt:i<ops.size:=(Array.getElem?_eq_some_iff.1 ho).1;have hnd:i∉dn:=λh=>by
    have:=(hl i hlt).2 h;rw [this] at h0;cases h0
   have hcl:∀j,qa3 (Region.before ops) i j=true→j∈dn:=by
    intro j hj;obtain⟨o',h1,e,h2,h3,h4⟩:=bef_edge hj;rw [ho] at h1;cases h1;have hd:=he e h2 h3;have hlt':=hback i o ho e h2 h3;have hmem:e.on∈dn:=by
     refine(hl e.on (by omega)).1 ?_
     rw [Array.getD_eq_getD_getElem?] at hd⊢;rw [Array.getElem?_eq_getElem (by omega:e.on<listed.size)] at hd⊢
     exact hd
    rcases h4 with rfl|h4
    ·exact hmem
    ·exact hc _ hmem j h4
   refine⟨hlt,hnd,hcl, ?_⟩;refine go_ord hback fuel _ _ (i::dn) (by simp [hs]) (by simp;omega) (List.nodup_cons.2 ⟨hnd,hn⟩) ?_ ?_ ?_
   ·intro k hk;rcases List.mem_cons.1 hk with rfl|hk
    ·exact hlt
    ·exact hr k hk
   ·intro k hk;by_cases hki:i=k
    ·subst hki;simp [hs,hlt]
    ·rw [getD_set_ne true hki,hl k hk];simp [Ne.symm hki]
   ·intro k hk j hj;rcases List.mem_cons.1 hk with rfl|hk
    ·exact List.mem_cons_of_mem _ (hcl j hj)
    ·exact List.mem_cons_of_mem _ (hc k hk j hj)
theorem qqj {ops:Array Oper} (hback:∀i o,ops[i]? =some o→∀e∈o.after,Region.binds .any e=true→e.on<i) (t:Nat):qzk ops (bef ops) [] (Region.schedule true ops t):=by
 rw [bef_eq];simp only [Region.schedule,Bool.true_or,if_true];refine go_ord hback ops.size t _ [] (by simp) (by simp) List.nodup_nil (by simp) ?_ (by simp)
 intro i hi;simp [hi]
section
variable {P:Program}
theorem qf4.mono {x:Ctx} {a:CAct} {σ:CSt} {todo:List Item→List Item} {Q Q':Out→CSt→Prop} (hq:∀o σ,Q o σ→Q' o σ) (h:qf4 P x a σ todo Q):qf4 P x a σ todo Q':=by
 intro B ρ w ac b k cs hB hR hA hF ht;obtain⟨e,a₁,σ₁,ρ₁,w₁,ac₁,h1,h2⟩:=h B ρ w ac b k cs hB hR hA hF ht;exact⟨e,a₁,σ₁,ρ₁,w₁,ac₁,hq _ _ h1,h2⟩
theorem qq1.mono {B:Nat} {m:Machine} {f:FuncId} {cs:List Frame} {dk:Option (Option Value)} {ρ:Rho} {σ:CSt} {w:World} {Q Q':Out→CSt→Prop} (hq:∀o σ,Q o σ→Q' o σ) (h:qq1 B P m f cs dk ρ σ w Q):qq1 B P m f cs dk ρ σ w Q':=by
 rcases h with⟨v,tk,σ',ρ',w',v',fr,h1,h2⟩|⟨v,σ',ρ',w',v',fr,h1,h2⟩
 ·exact .inl ⟨v,tk,σ',ρ',w',v',fr,hq _ _ h1,h2⟩
 ·exact .inr ⟨v,σ',ρ',w',v',fr,hq _ _ h1,h2⟩
theorem qj5.mono {t:Task} {σ:CSt} {Q Q':Out→CSt→Prop} (hq:∀o σ,Q o σ→Q' o σ) (h:qj5 P t σ Q):qj5 P t σ Q':=by
 cases t with
 |code x c a=>exact qf4.mono hq h
 |scope x body c a=>exact qf4.mono hq h
 |ops x ops todo a=>exact qf4.mono hq h
 |fn f args dk=>exact⟨h.1,fun ρ w args' cs h1 h2 h3=>(h.2 ρ w args' cs h1 h2 h3).mono hq⟩
 |unw x a m=>exact λB ρ w ac b t cs m' h1 h2 h3 h4 h5 h6 h7 h8 h9=>qq1.mono hq (h B ρ w ac b t cs m' h1 h2 h3 h4 h5 h6 h7 h8 h9)
 |round l args=>
  refine⟨h.1,fun ρ w args' p r c cs h1 h2 h3 h4=>⟨(h.2 ρ w args' p r c cs h1 h2 h3 h4).1, ?_⟩⟩
  rcases(h.2 ρ w args' p r c cs h1 h2 h3 h4).2 with⟨v,tk,σ',ρ',w',v',g1,g2⟩|⟨v,σ',ρ',w',v',g1,g2⟩
  ·exact .inl ⟨v,tk,σ',ρ',w',v',hq _ _ g1,g2⟩
  ·exact .inr ⟨v,σ',ρ',w',v',hq _ _ g1,g2⟩
theorem qwe {fv:Value} {args:Array Value} {dk:Option (Option Value)} {σ:CSt} {Q Q':Out→CSt→Prop} (hq:∀o σ,Q o σ→Q' o σ) (h:qf6 qg7 (qj5 P) fv args dk σ Q):qf6 qg7 (qj5 P) fv args dk σ Q':=by
 unfold qf6 at h⊢;split at h
 ·exact qj5.mono hq h
 ·split at h
  ·exact h.elim
  ·rename_i hd;rw [if_neg hd];exact qj5.mono hq h
 ·exact h.elim
structure Less (a b:CAct):Prop where
 sz:a.sz=b.sz
 df:a.df=b.df
 tk:a.tk=b.tk
 tm:∀t,a.get t=b.get t∨a.get t=undef
theorem Less.ar {B:Nat} {ρ:Rho} {σ:CSt} {w:World} {a b:CAct} {ac:Act} (h:Less a b) (hb:AR B ρ σ w b ac):AR B ρ σ w a ac:=
 ⟨by rw [h.sz];exact hb.sz,λi=>by rcases h.tm i with e|e<;>rw [e];exact hb.tm i;exact .junk _,by rw [h.df];exact hb.df⟩
def Lower (Q:Out→CSt→Prop):Out→CSt→Prop:=λo σ=>match o with| .code e a=>∃a',Less a' a∧Q (.code e a') σ|o=>Q o σ
theorem qf4.lower {x:Ctx} {a:CAct} {σ:CSt} {todo:List Item→List Item} {Q:Out→CSt→Prop} (h:qf4 P x a σ todo (Lower Q)):qf4 P x a σ todo Q:=by
 intro B ρ w ac b k cs hB hR hA hF ht;obtain⟨e,a₁,σ₁,ρ₁,w₁,ac₁,⟨a₂,hl,h1⟩,h2,h3,h4,h5,h6⟩:=h B ρ w ac b k cs hB hR hA hF ht;exact⟨e,a₂,σ₁,ρ₁,w₁,ac₁,h1,h2,hl.ar h3,h4,λhx=>by rw [hl.tk];exact h5 hx,by rw [hl.tk];exact h6⟩
structure Fix (ops:Array Oper) (b:Array Nat):Prop where
 dst:∀i j,i<ops.size→j<ops.size→i≠j→∀d,(qal ops i).dst=some d→(qal ops j).dst≠some d
 look:∀i j,i<ops.size→j<ops.size→i≠j→∀d,(qal ops i).dst=some d→d∈looks ops (qal ops j)→qou b i j=true
theorem qp9 {ops:Array Oper} {i:Nat} (h:i<ops.size):ops[i]? =some (qal ops i):=by simp [qal,h]
theorem qm3 {ops:Array Oper} {l:List Nat} (h:qow P ops l=true):Fix ops (bef ops)∧(∀i,i<ops.size→i∈l)∧
  (∀i o,ops[i]? =some o→∀e∈o.after,Region.binds .any e=true→e.on<i)∧qbu P ops (bef ops) l []=true:=by
 simp only [qow,Bool.and_eq_true,List.all_eq_true,List.mem_range,Bool.or_eq_true,beq_iff_eq,List.contains_iff_mem] at h;obtain⟨⟨⟨h1,h2⟩,h3⟩,h4⟩:=h;refine⟨⟨λi j hi hj hn d hd hc=> ?_,λi j hi hj hn d hd hl=> ?_⟩,h1,λi o ho e he hb=> ?_,h3⟩
 ·have:=(h4 i hi j hj).resolve_left hn;rw [hd] at this;simp [hc] at this
 ·have:=(h4 i hi j hj).resolve_left hn;rw [hd] at this;simp only [Bool.and_eq_true,Bool.or_eq_true,Bool.not_eq_true',decide_eq_false_iff_not,List.contains_eq_mem] at this;rcases this.2 with h|h
  ·simp [hl] at h
  ·exact h
 ·have hm:(o,i)∈ops.toList.zipIdx:=by
   rw [List.mk_mem_zipIdx_iff_getElem?];simpa using ho
  have:=h2 _ hm;rw [Array.all_eq_true_iff_forall_mem] at this;have:=this e he;simp [hb] at this;exact this
theorem qjo {ops:Array Oper} {l:List Nat} (h:qk6 P ops l=true):Fix ops (bef ops)∧(∀i,i<ops.size→i∈l)∧
  (∀i o,ops[i]? =some o→∀e∈o.after,Region.binds .any e=true→e.on<i)∧qec P ops (bef ops) l []=true:=by
 simp only [qk6,Bool.and_eq_true,List.all_eq_true,List.mem_range,Bool.or_eq_true,beq_iff_eq,List.contains_iff_mem] at h;obtain⟨⟨⟨h1,h2⟩,h3⟩,h4⟩:=h;refine⟨⟨λi j hi hj hn d hd hc=> ?_,λi j hi hj hn d hd hl=> ?_⟩,h1,λi o ho e he hb=> ?_,h3⟩
 ·have:=(h4 i hi j hj).resolve_left hn;rw [hd] at this;simp [hc] at this
 ·have:=(h4 i hi j hj).resolve_left hn;rw [hd] at this;simp only [Bool.and_eq_true,Bool.or_eq_true,Bool.not_eq_true',decide_eq_false_iff_not,List.contains_eq_mem] at this;rcases this.2 with h|h
  ·simp [hl] at h
  ·exact h
 ·have hm:(o,i)∈ops.toList.zipIdx:=by
   rw [List.mk_mem_zipIdx_iff_getElem?];simpa using ho
  have:=h2 _ hm;rw [Array.all_eq_true_iff_forall_mem] at this;have:=this e he;simp [hb] at this;exact this
structure Put (ops:Array Oper) (vals:Nat→Value) (S:List Nat) (a0 a:CAct):Prop where
 sz:a.sz=a0.sz
 df:a.df=a0.df
 tk:a.tk=a0.tk
 big:∀t,a0.sz≤t→a.get t=a0.get t
 old:∀t,(∀k∈S,(qal ops k).dst≠some t)→a.get t=a0.get t
 new:∀k∈S,∀t,(qal ops k).dst=some t→t<a0.sz→a.get t=vals k
theorem Put.start (ops:Array Oper) (vals:Nat→Value) (a0:CAct):Put ops vals [] a0 a0:=⟨rfl,rfl,rfl,λ_ _=>rfl,λ_ _=>rfl,by simp⟩
def upd (vals:Nat→Value) (i:Nat) (v:Value):Nat→Value:=λk=>if k=i then v else vals k
theorem Put.upd {ops:Array Oper} {vals:Nat→Value} {S:List Nat} {a0 a:CAct} (h:Put ops vals S a0 a) {i:Nat} {v:Value} (hi:i∉S):Put ops (upd vals i v) S a0 a:=
 {h with new:=λk hk t ht hl=>by rw [h.new k hk t ht hl];simp only [Sm.upd];rw [if_neg];rintro rfl;exact hi hk}
theorem Put.put {ops:Array Oper} {b:Array Nat} (hx:Fix ops b) {vals:Nat→Value} {S:List Nat} {a0 a:CAct} (h:Put ops vals S a0 a) {i:Nat} (hS:∀k∈S,k<ops.size) (hl:i<ops.size) (hi:i∉S):Put ops vals (i::S) a0 (a.put (qal ops i).dst (vals i)):=by
 cases hd:(qal ops i).dst with
 |none=>
  refine⟨h.sz,h.df,h.tk,h.big,λt ht=>h.old t λk hk=>ht k (by simp [hk]),λk hk t ht hl=> ?_⟩
  rcases List.mem_cons.1 hk with rfl|hk
  ·rw [hd] at ht;cases ht
  ·exact h.new k hk t ht hl
 |some d=>
  refine⟨by rw [CAct.sz_put];exact h.sz,by rw [CAct.df_put];exact h.df,by rw [CAct.tk_put];exact h.tk,λt ht=> ?_,λt ht=> ?_,λk hk t ht hlt=> ?_⟩
  ·rw [CAct.get_put,if_neg (by rw [h.sz];omega)];exact h.big t ht
  ·rw [CAct.get_put,if_neg]
   ·exact h.old t λk hk=>ht k (by simp [hk])
   ·rintro⟨rfl,_⟩;exact ht i (by simp) hd
  ·rw [CAct.get_put];rcases List.mem_cons.1 hk with rfl|hk
   ·rw [hd] at ht;cases ht;rw [if_pos ⟨rfl,by rw [h.sz];exact hlt⟩]
   ·rw [if_neg]
    ·exact h.new k hk t ht hlt
    ·rintro⟨rfl,_⟩;exact hx.dst k i (hS k hk) hl (λe=>hi (e▸hk)) _ ht hd
theorem Put.same {ops:Array Oper} {b:Array Nat} (hx:Fix ops b) {vals:Nat→Value} {S D:List Nat} {a0 a aD:CAct} (h:Put ops vals S a0 a) (hD:Put ops vals D a0 aD) {i:Nat} (hl:i<ops.size) (hi:i∉D)
  (hS:∀k∈S,k<ops.size) (hD':∀k∈D,k<ops.size) (hr:∀j,qa3 b i j=true→j∈D) (hcl:∀k∈D,∀j,qa3 b k j=true→j∈D)
  (h1:∀k,k<ops.size→k≠i→qa3 b i k=true→k∈S) (h2:∀k∈S,qa3 b k i=false∧k≠i):∀t∈looks ops (qal ops i),a.get t=aD.get t:=by
 intro t ht;by_cases hsz:a0.sz≤t
 ·rw [h.big t hsz,hD.big t hsz]
 have hsz:t<a0.sz:=Nat.lt_of_not_le hsz;by_cases hw:∃k,k<ops.size∧(qal ops k).dst=some t
 ·obtain⟨k,hk,hkd⟩:=hw;have only:∀S:List Nat,(∀k∈S,k<ops.size)→k∉S→∀k'∈S,(qal ops k').dst≠some t:=by
   intro S hS hkS k' hk' he;exact hx.dst k k' hk (hS k' hk') (by rintro rfl;exact hkS hk') _ hkd he
  by_cases hki:k=i
  ·subst hki;rw [h.old t (only S hS λhh=>(h2 k hh).2 rfl),hD.old t (only D hD' hi)]
  ·have ho:=hx.look k i hk hl hki t hkd ht;simp only [qou,Bool.or_eq_true] at ho;rcases ho with ho|ho
   ·rw [h.old t (only S hS λhh=>by rw [(h2 k hh).1] at ho;cases ho),hD.old t (only D hD' λhh=>hi (hcl k hh i ho))]
   ·rw [h.new k (h1 k hk hki ho) t hkd hsz,hD.new k (hr k ho) t hkd hsz]
 ·have hno:∀S:List Nat,(∀k∈S,k<ops.size)→∀k∈S,(qal ops k).dst≠some t:=λS hS k hk he=>hw ⟨k,hS k hk,he⟩
  rw [h.old t (hno S hS),hD.old t (hno D hD')]
theorem qpb {ops:Array Oper} {o:Oper} {a aD:CAct} (h:∀t∈looks ops o,a.get t=aD.get t):∀x∈o.op.operands,a.eval x=aD.eval x:=by
 intro x hx;cases x with
 |tmp t=>
  refine h t ?_;simp only [looks,List.mem_append,List.mem_filterMap];exact .inl ⟨.tmp t,by simpa using hx,rfl⟩
 |_=>rfl
theorem qlw {ops:Array Oper} {o:Oper} {a aD:CAct} (hz:a.sz=aD.sz) (h:∀t∈looks ops o,a.get t=aD.get t):qaz ops a o=qaz ops aD o:=by
 unfold qaz;split
 ·rfl
 ·rename_i j want hg;cases hd:(ops[j]?).bind (·.dst) with
  |none=>rfl
  |some d=>
   simp only;rw [hz,h d];simp only [looks,List.mem_append,hg];exact .inr (by rw [hd];simp)
theorem qft {ops:Array Oper} {b:Array Nat}:∀{rest dn:List Nat},qec P ops b rest dn=true→qbu P ops b rest dn=true
 | [],_,_=>rfl
 |j::rest,dn,h=>by
  simp only [qec,qbu,Bool.and_eq_true,List.all_eq_true,Bool.or_eq_true] at h⊢;refine⟨⟨h.1.1, .inr ?_⟩,qft h.2⟩;split
  ·rename_i e he;have h1:=h.1.2 e (List.mem_of_find?_eq_some he);have h2:=List.find?_some he;simp [h2] at h1;exact h1
  ·rfl
theorem qgt {ops:Array Oper} {b:Array Nat}:∀{rest dn:List Nat} {e:Nat},qbu P ops b rest dn=true→dn.find? (λe=>qab P (qal ops e))=some e→∀i∈rest,qab P (qal ops i)=false→∃e',(e'=e∨e'∈rest)∧qa3 b i e'=true
 |j::rest,dn,e,h,he,i,hi,hni=>by
  simp only [qbu,Bool.and_eq_true] at h;obtain⟨⟨⟨_,_⟩,h1⟩,h2⟩:=h;by_cases hij:i=j
  ·subst hij;simp only [hni,he,Bool.false_or] at h1;exact⟨e, .inl rfl,h1⟩
  ·have hi':i∈rest:=by
    rcases List.mem_cons.1 hi with h|h
    ·exact absurd h hij
    ·exact h
   by_cases hj:qab P (qal ops j)=true
   ·obtain⟨e',g1,g2⟩:=qgt (e:=j) h2 (by simp [hj]) i hi' hni
    refine⟨e', .inr ?_,g2⟩;rcases g1 with rfl|g1
    ·simp
    ·simp [g1]
   ·obtain⟨e',g1,g2⟩:=qgt (e:=e) h2 (by rw [List.find?_cons];simp [hj,he]) i hi' hni
    exact⟨e',g1.imp id λg=>by simp [g],g2⟩
theorem qzk.pairwise {ops:Array Oper} {b:Array Nat}:∀{s dn:List Nat},qzk ops b dn s→(∀j∈s,j∉dn)∧s.Pairwise (λi j=>i≠j∧qa3 b i j=false)∧(∀i,i<ops.size→i∈dn∨i∈s)∧(∀i∈s,i<ops.size)
 | [],dn,h=>⟨by simp, .nil,λi hi=> .inl (h i hi),by simp⟩
 |i::s,dn,h=>by
  obtain⟨h1,h2,h3,h4⟩:=h;obtain⟨g1,g2,g3,g4⟩:=qzk.pairwise h4;refine⟨λj hj=> ?_,List.pairwise_cons.2 ⟨λj hj=>⟨?_, ?_⟩,g2⟩,λk hk=> ?_,λk hk=> ?_⟩
  ·rcases List.mem_cons.1 hj with rfl|hj
   ·exact h2
   ·exact λhh=>g1 j hj (by simp [hh])
  ·rintro rfl;exact g1 i hj (by simp)
  ·cases hb:qa3 b i j
   ·rfl
   ·exact absurd (List.mem_cons_of_mem _ (h3 j hb)) (g1 j hj)
  ·rcases g3 k hk with hh|hh
   ·rcases List.mem_cons.1 hh with rfl|hh
    ·exact .inr (by simp)
    ·exact .inl hh
   ·exact .inr (by simp [hh])
  ·rcases List.mem_cons.1 hk with rfl|hk
   ·exact h1
   ·exact g4 k hk
theorem qmy {b:Array Nat}:∀{L S:List Nat},L.Pairwise (λe j=>e≠j∧qa3 b j e=true)→S.Pairwise (λi j=>i≠j∧qa3 b i j=false)→(∀x,x∈L↔x∈S)→L=S
 | [],S,_,_,h=>by
  cases S with
  |nil=>rfl
  |cons i S=>exact absurd ((h i).2 (by simp)) (by simp)
 |e::L, [],_,_,h=>absurd ((h e).1 (by simp)) (by simp)
 |e::L,i::S,hL,hS,h=>by
  obtain⟨a1,a2⟩:=List.pairwise_cons.1 hL;obtain⟨b1,b2⟩:=List.pairwise_cons.1 hS;have hei:e=i:=by
   by_cases hn:e=i
   ·exact hn
   ·have c1:i∈L:=by
     rcases List.mem_cons.1 ((h i).2 (by simp)) with hh|hh
     ·exact absurd hh.symm hn
     ·exact hh
    have c2:e∈S:=by
     rcases List.mem_cons.1 ((h e).1 (by simp)) with hh|hh
     ·exact absurd hh hn
     ·exact hh
    have:=(a1 i c1).2;rw [(b1 e c2).2] at this;cases this
  subst hei;rw [qmy a2 b2 λx=> ?_]
  constructor
  ·intro hx;rcases List.mem_cons.1 ((h x).1 (by simp [hx])) with hh|hh
   ·exact absurd hh.symm (a1 x hx).1
   ·exact hh
  ·intro hx;rcases List.mem_cons.1 ((h x).2 (by simp [hx])) with hh|hh
   ·exact absurd hh.symm (b1 x hx).1
   ·exact hh
theorem qij {ops:Array Oper} {b:Array Nat}:∀{l dn:List Nat},qec P ops b l dn=true→(qg8 P ops l).Pairwise (λe j=>e≠j∧qa3 b j e=true)∧∀j∈l,∀e∈dn,qab P (qal ops e)=true→qa3 b j e=true
 | [],_,_=>⟨.nil,by simp⟩
 |i::l,dn,h=>by
  simp only [qec,Bool.and_eq_true,List.all_eq_true] at h;obtain⟨⟨⟨⟨h0,_⟩,_⟩,h1⟩,h2⟩:=h;obtain⟨g1,g2⟩:=qij h2;refine⟨?_,λj hj e he hf=> ?_⟩
  ·unfold qg8 at g1⊢;rw [List.filter_cons];split
   ·rename_i hi;refine List.pairwise_cons.2 ⟨λj hj=> ?_,g1⟩
    have hjl:=(List.mem_filter.1 hj).1;refine⟨?_,g2 j hjl i (by simp) hi⟩
    rintro rfl;simp [hjl] at h0
   ·exact g1
  ·rcases List.mem_cons.1 hj with rfl|hj
   ·have:=h1 e he;simp [hf] at this;exact this
   ·exact g2 j hj e (by simp [he]) hf
theorem qpa {ops:Array Oper} {l s:List Nat} (h:qk6 P ops l=true) (hs:qzk ops (bef ops) [] s):qg8 P ops l=qg8 P ops s:=by
 have hl:=qjo h;obtain⟨_,h1,h2,h3⟩:=hs.pairwise;refine qmy (qij hl.2.2.2).1 (List.Pairwise.filter _ h1) λx=> ?_
 have hlt:∀{l dn:List Nat},qec P ops (bef ops) l dn=true→∀i∈l,i<ops.size:=by
  intro l
  induction l with
  |nil=>intro dn _ i hi;cases hi
  |cons k l ih=>
   intro dn h i hi;simp only [qec,Bool.and_eq_true,decide_eq_true_eq] at h;rcases List.mem_cons.1 hi with rfl|hi
   ·exact h.1.1.1.2
   ·exact ih h.2 i hi
 simp only [qg8,List.mem_filter]
 constructor
 ·rintro⟨a,b⟩;exact⟨(h2 x (hlt hl.2.2.2 x a)).resolve_left (by simp),b⟩
 ·rintro⟨a,b⟩;exact⟨hl.2.1 x (h3 x a),b⟩
theorem quc {b:Array Nat}:∀(f:Nat) (S left:List Nat),S.Pairwise (λi j=>i≠j∧qa3 b i j=false)→(∀x,x∈S↔x∈left)→left.Nodup→left.length≤f→S∈exts b f left
 |0,S,left,hS,hx,hn,hl=>by
  have:left= []:=List.eq_nil_of_length_eq_zero (by omega)
  subst this;have:S= []:=List.eq_nil_iff_forall_not_mem.2 λx hh=>absurd ((hx x).1 hh) (by simp)
  subst this;simp [exts]
 |f+1,S,left,hS,hx,hn,hl=>by
  unfold exts;split
  ·rename_i h0;subst h0;have:S= []:=List.eq_nil_iff_forall_not_mem.2 λx hh=>absurd ((hx x).1 hh) (by simp)
   subst this;simp
  ·rename_i h0;cases S with
   |nil=>
    exfalso;obtain⟨x,hxl⟩:=List.exists_mem_of_ne_nil _ h0;exact absurd ((hx x).2 hxl) (by simp)
   |cons i S=>
    obtain⟨h1,h2⟩:=List.pairwise_cons.1 hS;have hi:i∈left:=(hx i).1 (by simp)
    rw [List.mem_flatMap];refine⟨i, ?_,List.mem_map.2 ⟨S,quc f S (left.erase i) h2 (λx=> ?_) (hn.erase _) ?_,rfl⟩⟩
    ·rw [List.mem_filter];refine⟨hi, ?_⟩;rw [List.all_eq_true];intro j hj;rcases List.mem_cons.1 ((hx j).2 hj) with rfl|hj
     ·simp
     ·simp [(h1 j hj).2]
    ·rw [hn.mem_erase_iff]
     constructor
     ·intro hh;exact⟨(h1 x hh).1.symm,(hx x).1 (by simp [hh])⟩
     ·rintro⟨hne,hh⟩;rcases List.mem_cons.1 ((hx x).2 hh) with rfl|hh
      ·exact absurd rfl hne
      ·exact hh
    ·rw [List.length_erase_of_mem hi];omega
theorem qsz {ops:Array Oper} {s:List Nat} (h:qjv P ops=true) (hs:qzk ops (bef ops) [] s):∃j,j<(qe6 P ops).length∧qow P ops ((qe6 P ops).getD j [])=true∧qg8 P ops ((qe6 P ops).getD j [])=qg8 P ops s:=by
 simp only [qjv,Bool.and_eq_true,beq_iff_eq,List.all_eq_true] at h;obtain⟨⟨h1,h2⟩,_⟩:=h;obtain⟨_,g1,g2,g3⟩:=hs.pairwise;have hm:qg8 P ops s∈eosOf P ops:=by
  refine quc _ _ _ (List.Pairwise.filter _ g1) (λx=> ?_) (List.Pairwise.filter _ List.nodup_range) ?_
  ·simp only [qg8,List.mem_filter,List.mem_range]
   constructor
   ·rintro⟨a,b⟩;exact⟨g3 x a,b⟩
   ·rintro⟨a,b⟩;exact⟨(g2 x a).resolve_left (by simp),b⟩
  ·have:=List.length_filter_le (λi=>qab P (qal ops i)) (List.range ops.size)
   simpa [qg8] using this
 rw [←h2] at hm;obtain⟨l,hl,he⟩:=List.mem_map.1 hm;obtain⟨j,hj,rfl⟩:=List.mem_iff_getElem.1 hl;refine⟨j,hj, ?_, ?_⟩
 ·rw [List.getD_eq_getElem?_getD,List.getElem?_eq_getElem hj];exact h1 _ hl
 ·rw [List.getD_eq_getElem?_getD,List.getElem?_eq_getElem hj];exact he
structure Inv (P:Program) (ops:Array Oper) (b:Array Nat) (a0:CAct) (dn rest D:List Nat) (vals:Nat→Value) (a aD:CAct) (σ:CSt) (rs:List Rec):Prop where
 step:qbu P ops b rest dn=true
 cov:∀i,i<ops.size→i∈dn∨i∈rest
 apart:∀i∈dn,i∉rest
 lt:∀i∈dn,i<ops.size
 late:∀k∈dn,∀j∈rest,qa3 b k j=false
 sub:∀i∈D,i∈dn
 eff:∀i∈dn,qab P (qal ops i)=true→i∈D
 cl:∀i∈D,∀j,qa3 b i j=true→j∈D
 pa:Put ops vals dn a0 a
 pD:Put ops vals D a0 aD
 pend:∀j∈dn,j∉D→∃S aj,Put ops vals S a0 aj∧(∀k,k<ops.size→k≠j→qa3 b j k=true→k∈S)∧(∀k∈S,qa3 b k j=false∧k≠j)∧(∀k∈S,k∈dn)∧
  ((qaz ops aj (qal ops j)=some true∧⟨j,aj,vals j⟩∈rs∧cop P σ aj.eval (qal ops j)= .val (vals j) σ)∨(qaz ops aj (qal ops j)=some false∧vals j=nope))
section
variable {ops:Array Oper} {b:Array Nat} {a0:CAct} {dn rest D:List Nat} {vals:Nat→Value} {a aD:CAct} {σ:CSt} {rs:List Rec}
theorem qdk {j:Nat} (h:qbu P ops b (j::rest) dn=true):j∉rest∧j<ops.size∧(∀k∈rest,qa3 b j k=false)∧qbu P ops b rest (j::dn)=true:=by
 simp only [qbu,Bool.and_eq_true,List.all_eq_true,Bool.not_eq_true',decide_eq_true_eq] at h;obtain⟨⟨⟨⟨h1,h2⟩,h3⟩,_⟩,h4⟩:=h;exact⟨by simpa using h1,h2,h3,h4⟩
theorem Inv.nin {j:Nat} (h:Inv P ops b a0 dn (j::rest) D vals a aD σ rs):j∉dn:=λhh=>h.apart j hh (by simp)
theorem Inv.ltD (h:Inv P ops b a0 dn rest D vals a aD σ rs):∀i∈D,i<ops.size:=λi hi=>h.lt i (h.sub i hi)
theorem Inv.ahead (hx:Fix ops b) {j:Nat} {v:Value} {rs':List Rec} (h:Inv P ops b a0 dn (j::rest) D vals a aD σ rs) (he:qab P (qal ops j)=false) (hrs:∀r∈rs,r∈rs')
  (hv:(qaz ops a (qal ops j)=some true∧⟨j,a,v⟩∈rs'∧cop P σ a.eval (qal ops j)= .val v σ)∨(qaz ops a (qal ops j)=some false∧v=nope)):
  Inv P ops b a0 (j::dn) rest D (upd vals j v) (a.put (qal ops j).dst v) aD σ rs':=by
 obtain⟨h1,h2,h3,h4⟩:=qdk h.step;have hn:=h.nin;have hnD:j∉D:=λhh=>hn (h.sub j hh)
 have hup:∀{k},k∈dn→upd vals j v k=vals k:=fun {k} hk=>by simp only [upd];rw [if_neg];rintro rfl;exact hn hk
 have hjj:upd vals j v j=v:=by simp [upd]
 refine⟨h4,λi hi=> ?_,λi hi=> ?_,λi hi=> ?_,λk hk i hi=> ?_,λi hi=> ?_,λi hi hf=> ?_,h.cl, ?_,h.pD.upd hnD,λi hi hiD=> ?_⟩
 ·rcases h.cov i hi with hh|hh
  ·exact .inl (by simp [hh])
  ·rcases List.mem_cons.1 hh with rfl|hh
   ·exact .inl (by simp)
   ·exact .inr hh
 ·rcases List.mem_cons.1 hi with rfl|hi
  ·exact h1
  ·exact λhh=>h.apart i hi (by simp [hh])
 ·rcases List.mem_cons.1 hi with rfl|hi
  ·exact h2
  ·exact h.lt i hi
 ·rcases List.mem_cons.1 hk with rfl|hk
  ·exact h3 i hi
  ·exact h.late k hk i (by simp [hi])
 ·simp [h.sub i hi]
 ·rcases List.mem_cons.1 hi with rfl|hi
  ·rw [he] at hf;cases hf
  ·exact h.eff i hi hf
 ·have:=(h.pa.upd (v:=v) hn).put hx h.lt h2 hn;rw [hjj] at this;exact this
 ·rcases List.mem_cons.1 hi with rfl|hi
  ·refine⟨dn,a,h.pa.upd hn,λk hk hki hb=> ?_,λk hk=>⟨h.late k hk i (by simp),by rintro rfl;exact hn hk⟩,λk hk=>by simp [hk],by rw [hjj];exact hv⟩
   rcases h.cov k hk with hh|hh
   ·exact hh
   ·rcases List.mem_cons.1 hh with rfl|hh
    ·exact absurd rfl hki
    ·rw [h3 k hh] at hb;cases hb
  ·obtain⟨S,aj,g1,g2,g3,g4,g5⟩:=h.pend i hi hiD;refine⟨S,aj,g1.upd (λhh=>hn (g4 j hh)),g2,g3,λk hk=>by simp [g4 k hk], ?_⟩
   rw [hup hi];exact g5.imp (λg=>⟨g.1,hrs _ g.2.1,g.2.2⟩) id
theorem Inv.turn (hx:Fix ops b) {i:Nat} (h:Inv P ops b a0 dn rest D vals a aD σ rs) (hi:i∈dn) (hiD:i∉D) (hr:∀j,qa3 b i j=true→j∈D):
  Inv P ops b a0 dn rest (i::D) vals a (aD.put (qal ops i).dst (vals i)) σ rs:=by
 refine {h with sub:=λk hk=> ?_,eff:=λk hk hf=>by simp [h.eff k hk hf],cl:=λk hk j hj=> ?_,pD:=h.pD.put hx h.ltD (h.lt i hi) hiD,pend:=λj hj hjD=>h.pend j hj λhh=>hjD (by simp [hh])}
 ·rcases List.mem_cons.1 hk with rfl|hk
  ·exact hi
  ·exact h.sub k hk
 ·rcases List.mem_cons.1 hk with rfl|hk
  ·simp [hr j hj]
  ·simp [h.cl k hk j hj]
theorem Inv.both (hx:Fix ops b) {i:Nat} {v:Value} {σ':CSt} (h:Inv P ops b a0 dn (i::rest) D vals a aD σ rs) (hr:∀j,qa3 b i j=true→j∈D)
  (hk:∀j∈dn,j∉D→∀aj,(⟨j,aj,vals j⟩:Rec)∈rs→cop P σ aj.eval (qal ops j)= .val (vals j) σ→cop P σ' aj.eval (qal ops j)= .val (vals j) σ'):
  Inv P ops b a0 (i::dn) rest (i::D) (upd vals i v) (a.put (qal ops i).dst v) (aD.put (qal ops i).dst v) σ' rs:=by
 obtain⟨h1,h2,h3,h4⟩:=qdk h.step;have hn:=h.nin;have hnD:i∉D:=λhh=>hn (h.sub i hh)
 have hup:∀{k},k∈dn→upd vals i v k=vals k:=fun {k} hk=>by simp only [upd];rw [if_neg];rintro rfl;exact hn hk
 have hjj:upd vals i v i=v:=by simp [upd]
 refine⟨h4,λk hk=> ?_,λk hk=> ?_,λk hk=> ?_,λk hk j hj=> ?_,λk hk=> ?_,λk hk hf=> ?_,λk hk j hj=> ?_, ?_, ?_,λj hj hjD=> ?_⟩
 ·rcases h.cov k hk with hh|hh
  ·exact .inl (by simp [hh])
  ·rcases List.mem_cons.1 hh with rfl|hh
   ·exact .inl (by simp)
   ·exact .inr hh
 ·rcases List.mem_cons.1 hk with rfl|hk
  ·exact h1
  ·exact λhh=>h.apart k hk (by simp [hh])
 ·rcases List.mem_cons.1 hk with rfl|hk
  ·exact h2
  ·exact h.lt k hk
 ·rcases List.mem_cons.1 hk with rfl|hk
  ·exact h3 j hj
  ·exact h.late k hk j (by simp [hj])
 ·rcases List.mem_cons.1 hk with rfl|hk
  ·simp
  ·simp [h.sub k hk]
 ·rcases List.mem_cons.1 hk with rfl|hk
  ·simp
  ·simp [h.eff k hk hf]
 ·rcases List.mem_cons.1 hk with rfl|hk
  ·simp [hr j hj]
  ·simp [h.cl k hk j hj]
 ·have:=(h.pa.upd (v:=v) hn).put hx h.lt h2 hn;rw [hjj] at this;exact this
 ·have:=(h.pD.upd (v:=v) hnD).put hx h.ltD h2 hnD;rw [hjj] at this;exact this
 ·rcases List.mem_cons.1 hj with rfl|hj
  ·exact absurd (by simp) hjD
  ·have hjD':j∉D:=λhh=>hjD (by simp [hh])
   obtain⟨S,aj,g1,g2,g3,g4,g5⟩:=h.pend j hj hjD';refine⟨S,aj,g1.upd (λhh=>hn (g4 i hh)),g2,g3,λk hk=>by simp [g4 k hk], ?_⟩
   rw [hup hj];exact g5.imp (λg=>⟨g.1,g.2.1,hk j hj hjD' aj g.2.1 g.2.2⟩) id
end
end
end Go.Sm
namespace Go.Sm
open Go
mutual
theorem qsu:∀{a b:Value},qfm a b=true→a=b
 | .bool a,b,h=>by cases b<;>simp_all [qfm]
 | .int k a,b,h=>by cases b<;>simp_all [qfm]
 | .float k a,b,h=>by cases b<;>simp_all [qfm]
 | .complex k a c,b,h=>by cases b<;>simp_all [qfm]
 | .string ⟨⟨a⟩⟩,b,h=>by
  cases b with
  |string c=>
   obtain⟨⟨c⟩⟩:=c;simp only [qfm,beq_iff_eq] at h;rw [h]
  |_=>simp [qfm] at h
 | .pointer a,b,h=>by cases b<;>simp_all [qfm]
 | .slice a n c,b,h=>by cases b<;>simp_all [qfm]
 | .map a,b,h=>by cases b<;>simp_all [qfm]
 | .chan a,b,h=>by cases b<;>simp_all [qfm]
 | .func f ⟨x⟩ ⟨y⟩,b,h=>by
  cases b with
  |func g z u=>
   obtain⟨z⟩:=z;obtain⟨u⟩:=u;simp only [qfm,Bool.and_eq_true,decide_eq_true_eq] at h;rw [h.1.1,qj0 h.1.2,qj0 h.2]
  |_=>simp [qfm] at h
 | .nilFunc,b,h=>by cases b<;>simp_all [qfm]
 | .iface t v,b,h=>by
  cases b with
  |iface u w=>
   simp only [qfm,Bool.and_eq_true,beq_iff_eq] at h;rw [h.1,qsu h.2]
  |_=>simp [qfm] at h
 | .nilIface,b,h=>by cases b<;>simp_all [qfm]
 | .agg ⟨x⟩,b,h=>by
  cases b with
  |agg z=>
   obtain⟨z⟩:=z;simp only [qfm] at h;rw [qj0 h]
  |_=>simp [qfm] at h
 | .tuple ⟨x⟩,b,h=>by
  cases b with
  |tuple z=>
   obtain⟨z⟩:=z;simp only [qfm] at h;rw [qj0 h]
  |_=>simp [qfm] at h
theorem qj0:∀{a b:List Value},qkd a b=true→a=b
 | [],b,h=>by cases b<;>simp_all [qkd]
 |x::l,b,h=>by
  cases b with
  |nil=>simp [qkd] at h
  |cons y m=>
   simp only [qkd,Bool.and_eq_true] at h;rw [qsu h.1,qj0 h.2]
end
section
variable {E:Env} {ops:Array Oper} {b:Array Nat} {a0:CAct} {D:List Nat} {aD:CAct} {σ:CSt} {Q:Out→CSt→Prop}
theorem qk8 {rs:List Rec} {e:Nat} {σ':CSt} {dn rest:List Nat} {vals:Nat→Value} {a:CAct} (h:qgk E.P ops b σ' e rs=true) (hI:Inv E.P ops b a0 dn rest D vals a aD σ rs) (hr:∀j,qa3 b e j=true→j∈D):
  ∀j∈dn,j∉D→∀aj,(⟨j,aj,vals j⟩:Rec)∈rs→cop E.P σ aj.eval (qal ops j)= .val (vals j) σ→cop E.P σ' aj.eval (qal ops j)= .val (vals j) σ':=by
 intro j hj hjD aj hm hc;have hne:qab E.P (qal ops j)=false:=by
  cases hh:qab E.P (qal ops j)
  ·rfl
  ·exact absurd (hI.eff j hj hh) hjD
 simp only [qgk,List.all_eq_true,Bool.or_eq_true,Bool.not_eq_true'] at h;rcases h _ hm with(h1|h1)|h1
 ·exact absurd (hr j h1) hjD
 ·exact cop_move hne h1 hc
 ·split at h1
  ·rename_i v s hv;have:=ql0 hne hv;rw [this,qsu h1] at hv;exact hv
  ·cases h1
theorem adv {x:Ctx} (hx:Fix ops b):∀(rest dn:List Nat) (vals:Nat→Value) (a:CAct) (rs:List Rec),Inv E.P ops b a0 dn rest D vals a aD σ rs→dgo qg7 E (qj5 E.P) ops b a0 Q rest a σ rs→
  ∀i∈rest,(∀j,qa3 b i j=true→j∈D)→(qab E.P (qal ops i)=true→∃t,qg8 E.P ops rest=i::t)→
   (qab E.P (qal ops i)=false→∃dn' rest' vals' a' rs',Inv E.P ops b a0 dn' rest' D vals' a' aD σ rs'∧dgo qg7 E (qj5 E.P) ops b a0 Q rest' a' σ rs'∧i∈dn'∧qg8 E.P ops rest'=qg8 E.P ops rest)∧
   (qab E.P (qal ops i)=true→∃dn' rest' vals' a' rs',Inv E.P ops b a0 dn' (i::rest') D vals' a' aD σ rs'∧dgo qg7 E (qj5 E.P) ops b a0 Q (i::rest') a' σ rs'∧qg8 E.P ops (i::rest')=qg8 E.P ops rest)
 | [],dn,vals,a,rs,hI,hd,i,hi,hr,hs=>by cases hi
 |j::rest,dn,vals,a,rs,hI,hd,i,hi,hr,hs=>by
  by_cases he:qab E.P (qal ops j)=true
  ·by_cases hij:j=i
   ·subst hij;exact⟨λh=>absurd (he.symm.trans h) (by simp),λ_=>⟨dn,rest,vals,a,rs,hI,hd,rfl⟩⟩
   ·exfalso;have hi':i∈rest:=by
     rcases List.mem_cons.1 hi with h|h
     ·exact absurd h.symm hij
     ·exact h
    have h4:=(qdk hI.step).2.2.2;by_cases hei:qab E.P (qal ops i)=true
    ·obtain⟨t,ht⟩:=hs hei;rw [qg8,List.filter_cons,if_pos he] at ht;exact hij (List.cons.inj ht).1
    ·obtain⟨e',g1,g2⟩:=qgt (e:=j) h4 (by simp [he]) i hi' (by simpa using hei)
     have g3:=hI.sub e' (hr e' g2);rcases g1 with rfl|g1
     ·exact hI.nin g3
     ·exact hI.apart e' g3 (by simp [g1])
  ·have he':qab E.P (qal ops j)=false:=by simpa using he
   have hfe:qg8 E.P ops (j::rest)=qg8 E.P ops rest:=by rw [qg8,List.filter_cons,if_neg (by simp [he'])];rfl
   --one on
   have one:∃vals' a' rs',Inv E.P ops b a0 (j::dn) rest D vals' a' aD σ rs'∧dgo qg7 E (qj5 E.P) ops b a0 Q rest a' σ rs':=by
    unfold dgo at hd;simp only at hd;cases hw:qaz ops a (qal ops j) with
    |none=>rw [hw] at hd;exact hd.elim
    |some wb=>
     rw [hw] at hd;cases wb with
     |true=>
      simp only [he',Bool.false_eq_true,if_false] at hd;split at hd
      ·rename_i v s hv;have hs:=ql0 he' hv;rw [hs] at hv;exact⟨_,_,_,hI.ahead hx he' (λr hr=>by simp [hr]) (.inl ⟨hw,by simp,hv⟩),hd⟩
      ·exact hd.elim
     |false=>exact⟨_,_,_,hI.ahead hx he' (λr hr=>hr) (.inr ⟨hw,rfl⟩),hd⟩
   obtain⟨vals',a',rs',hI',hd'⟩:=one;by_cases hij:j=i
   ·subst hij;exact⟨λ_=>⟨_,_,_,_,_,hI',hd',by simp,hfe.symm⟩,λh=>absurd (he'.symm.trans h) (by simp)⟩
   ·have hi':i∈rest:=by
     rcases List.mem_cons.1 hi with h|h
     ·exact absurd h.symm hij
     ·exact h
    rw [hfe] at hs⊢;exact adv (x:=x) hx rest (j::dn) vals' a' rs' hI' hd' i hi' hr hs
theorem qd8:∀(l:List Oper) (a:CAct) (t:Nat),(l.foldl (λa o=>a.put o.dst undef) a).get t=a.get t∨((l.foldl (λa o=>a.put o.dst undef) a).get t=undef)
 | [],a,t=> .inl rfl
 |o::l,a,t=>by
  rw [List.foldl_cons];rcases qd8 l (a.put o.dst undef) t with h|h
  ·rw [h];cases hd:o.dst with
   |none=>exact .inl rfl
   |some d=>
    rw [CAct.get_put];split
    ·exact .inr rfl
    ·exact .inl rfl
  ·exact .inr h
theorem qpp:∀(l:List Oper) (a:CAct) (t:Nat) (o:Oper),o∈l→o.dst=some t→t<a.sz→(l.foldl (λa o=>a.put o.dst undef) a).get t=undef
 | [],a,t,o,ho,hd,hl=>by cases ho
 |o'::l,a,t,o,ho,hd,hl=>by
  rw [List.foldl_cons];rcases List.mem_cons.1 ho with rfl|ho
  ·rcases qd8 l (a.put o.dst undef) t with h|h
   ·rw [h,hd,CAct.get_put,if_pos ⟨rfl,hl⟩]
   ·exact h
  ·exact qpp l _ t o ho hd (by rw [CAct.sz_put];exact hl)
theorem qng:∀(l:List Oper) (a:CAct),(l.foldl (λa o=>a.put o.dst undef) a).sz=a.sz∧(l.foldl (λa o=>a.put o.dst undef) a).df=a.df∧(l.foldl (λa o=>a.put o.dst undef) a).tk=a.tk
 | [],a=>⟨rfl,rfl,rfl⟩
 |o::l,a=>by
  obtain⟨h1,h2,h3⟩:=qng l (a.put o.dst undef);rw [List.foldl_cons];exact⟨h1.trans (CAct.sz_put ..),h2.trans (CAct.df_put ..),h3.trans (CAct.tk_put ..)⟩
theorem qp1 {vals:Nat→Value} (hD:Put ops vals D a0 aD) (hl:∀i∈D,i<ops.size):Less (qh6 ops a0) aD:=by
 obtain⟨h1,h2,h3⟩:=qng ops.toList a0;refine⟨h1.trans hD.sz.symm,h2.trans hD.df.symm,h3.trans hD.tk.symm,λt=> ?_⟩
 by_cases hw:∃k∈D,(qal ops k).dst=some t
 ·obtain⟨k,hk,hd⟩:=hw;by_cases hs:t<a0.sz
  ·right
   refine qpp ops.toList a0 t (qal ops k) ?_ hd hs;have:=qp9 (hl k hk);rw [Array.mem_toList_iff];exact Array.mem_of_getElem? this
  ·have:=hD.big t (Nat.le_of_not_lt hs);rw [this];exact qd8 ops.toList a0 t
 ·have:=hD.old t λk hk he=>hw ⟨k,hk,he⟩
  rw [this];exact qd8 ops.toList a0 t
theorem qgi {x:Ctx} (G:Good E.P) (HE:qmj E) (hx:Fix ops b):∀(s D:List Nat) (dn rest:List Nat) (vals:Nat→Value) (a aD:CAct) (σ:CSt) (rs:List Rec),qzk ops b D s→qg8 E.P ops rest=qg8 E.P ops s→Inv E.P ops b a0 dn rest D vals a aD σ rs→
  dgo qg7 E (qj5 E.P) ops b a0 Q rest a σ rs→qf4 E.P x aD σ (λk=> .inRegion ops s::k) (Lower Q)
 | [],D,dn,rest,vals,a,aD,σ,rs,ho,hfo,hI,hd=>by
  have hnil:rest= []:=by
   cases rest with
   |nil=>rfl
   |cons j rest=>
    have:=(qdk hI.step).2.1;exact absurd (hI.sub j (ho j this)) hI.nin
  subst hnil;refine .now (e:= .normal) ⟨a,⟨hI.pa.sz.trans hI.pD.sz.symm,hI.pa.df.trans hI.pD.df.symm,hI.pa.tk.trans hI.pD.tk.symm,λt=> .inl ?_⟩,by unfold dgo at hd;exact hd⟩ λ_ _ _ _ _ _=> .one qi6
  by_cases hs:t<a0.sz
  ·by_cases hw:∃k∈D,(qal ops k).dst=some t
   ·obtain⟨k,hk,hkd⟩:=hw;rw [hI.pa.new k (hI.sub k hk) t hkd hs,hI.pD.new k hk t hkd hs]
   ·rw [hI.pa.old t λk hk he=>hw ⟨k,ho k (hI.lt k hk),he⟩,hI.pD.old t λk hk he=>hw ⟨k,hk,he⟩]
  ·rw [hI.pa.big t (Nat.le_of_not_lt hs),hI.pD.big t (Nat.le_of_not_lt hs)]
 |i::s,D,dn,rest,vals,a,aD,σ,rs,ho,hfo,hI,hd=>by
  obtain⟨hlt,hiD,hr,ho'⟩:=ho;have hoi:=qp9 hlt;refine zb6 G HE ?_;simp only [F,hoi];by_cases he:qab E.P (qal ops i)=true
  ·have hin:i∈rest:=by
    rcases hI.cov i hlt with h|h
    ·exact absurd (hI.eff i h he) hiD
    ·exact h
   have hfi:qg8 E.P ops (i::s)=i::qg8 E.P ops s:=by rw [qg8,List.filter_cons,if_pos he];rfl
   obtain⟨dn,rest,vals,a,rs,hI,hd,hfo2⟩:=(adv (x:=x) hx rest dn vals a rs hI hd i hin hr λ_=>⟨_,hfo.trans hfi⟩).2 he
   have hfo':qg8 E.P ops rest=qg8 E.P ops s:=by
    have h1:qg8 E.P ops (i::rest)=i::qg8 E.P ops rest:=by rw [qg8,List.filter_cons,if_pos he];rfl
    rw [hfo,hfi,h1] at hfo2;exact(List.cons.inj hfo2).2
   have hn:=hI.nin;obtain⟨g1,g2,g3,g4⟩:=qdk hI.step
   have hsame:=hI.pa.same hx hI.pD hlt hiD hI.lt hI.ltD hr hI.cl (λk hk hki hb=>by
    rcases hI.cov k hk with h|h
    ·exact h
    ·rcases List.mem_cons.1 h with rfl|h
     ·exact absurd rfl hki
     ·rw [g3 k h] at hb;cases hb) (λk hk=>⟨hI.late k hk i (by simp),by rintro rfl;exact hn hk⟩)
   have hwe:=qlw (hI.pa.sz.trans hI.pD.sz.symm) hsame;have hce:∀σ,cop E.P σ a.eval (qal ops i)=cop E.P σ aD.eval (qal ops i):=fun σ=>qpg (qpb hsame)
   unfold dgo at hd;simp only [hwe,he,if_true,hce] at hd;cases hw:qaz ops aD (qal ops i) with
   |none=>rw [hw] at hd;exact hd.elim
   |some wb=>
    rw [hw] at hd;cases wb with
    |false=>exact qgi G HE hx s (i::D) _ _ _ _ _ _ _ ho' hfo' (hI.both hx hr λj hj hjD aj hm hc=>hc) hd
    |true=>
     simp only at hd;simp only;cases hc:cop E.P σ aD.eval (qal ops i) with
     |val v σ'=>
      rw [hc] at hd;simp only at hd;split at hd
      ·rename_i hre;exact qgi G HE hx s (i::D) _ _ _ _ _ _ _ ho' hfo' (hI.both hx hr (qk8 hre hI hr)) hd
      ·exact hd.elim
     |call fv args=>
      rw [hc] at hd;simp only at hd;cases hext:qcr E fv args σ with
      |some v=>rw [hext] at hd;exact hd.elim
      |none=>
      rw [hext] at hd;simp only at hd;simp only [hext];refine qwe (λout σ' hq=> ?_) hd
      cases out with
      |ret v tk=>
       simp only at hq⊢;split at hq
       ·rename_i hre;exact qgi G HE hx s (i::D) _ _ _ _ _ _ _ ho' hfo' (hI.both hx hr (qk8 hre hI hr)) hq
       ·exact hq.elim
      |pan v=>exact⟨qh6 ops a0,qp1 hI.pD hI.ltD,hq⟩
      |code e a=>exact hq.elim
     |_=>rw [hc] at hd;exact hd.elim
  ·have he':qab E.P (qal ops i)=false:=by simpa using he
   have hfi:qg8 E.P ops (i::s)=qg8 E.P ops s:=by rw [qg8,List.filter_cons,if_neg (by simp [he'])];rfl
   have hmem:∃dn rest vals a rs,Inv E.P ops b a0 dn rest D vals a aD σ rs∧dgo qg7 E (qj5 E.P) ops b a0 Q rest a σ rs∧i∈dn∧qg8 E.P ops rest=qg8 E.P ops s:=by
    rcases hI.cov i hlt with h|h
    ·exact⟨dn,rest,vals,a,rs,hI,hd,h,hfo.trans hfi⟩
    ·obtain⟨dn,rest,vals,a,rs,h1,h2,h3,h4⟩:=(adv (x:=x) hx rest dn vals a rs hI hd i h hr (λhh=>absurd (he'.symm.trans hh) (by simp))).1 he'
     exact⟨dn,rest,vals,a,rs,h1,h2,h3,h4.trans (hfo.trans hfi)⟩
   obtain⟨dn,rest,vals,a,rs,hI,hd,hin,hfo'⟩:=hmem;obtain⟨S,aj,p1,p2,p3,p4,p5⟩:=hI.pend i hin hiD;have hsame:=p1.same hx hI.pD hlt hiD (λk hk=>hI.lt k (p4 k hk)) hI.ltD hr hI.cl p2 p3
   have hwe:=qlw (p1.sz.trans hI.pD.sz.symm) hsame;have hce:cop E.P σ aj.eval (qal ops i)=cop E.P σ aD.eval (qal ops i):=qpg (qpb hsame);have next:=qgi (x:=x) G HE hx s (i::D) _ _ _ _ _ _ _ ho' hfo' (hI.turn hx hin hiD hr) hd;rcases p5 with⟨q1,_,q3⟩|⟨q1,q2⟩
   ·rw [hwe] at q1;rw [hce] at q3;simp only [q1,q3];exact next
   ·rw [hwe] at q1;simp only [q1];rw [q2] at next;exact next
end
end Go.Sm
namespace Go.Sm
open Go
set_option maxRecDepth 100000
set_option maxHeartbeats 4000000
section
variable {P:Program}
theorem Steps.skip {m m₁ m₂ m':Machine} (h₁:step P m= .next m₁) (h₂:step P m₂= .next m₁) (h:Steps P m m') (hn:m≠m'):Steps P m₂ m':=by
 obtain⟨n,hn'⟩:=h;cases n with
 |zero=>
  simp only [runN] at hn';cases hn';exact absurd rfl hn
 |succ n=>
  refine⟨n+1, ?_⟩;simp only [runN,h₁] at hn';simp only [runN,h₂];exact hn'
theorem qj3 {fr fr':Frame} {cs cs':List Frame} {w w':World} (h:lone fr cs w=lone fr' cs' w'):fr=fr':=by
 simp only [lone] at h;injection h with h1 h2 h3
 have:=congrArg Array.toList h2;simp at this;exact this.1
theorem qz4 {x:Ctx} {a:CAct} {σ:CSt} {c:Code} {Q:Out→CSt→Prop} (h:qf4 P x a σ (λk=> .code (.loop c)::k) Q):qf4 P x a σ (λk=> .inLoop c::k) Q:=by
 intro B ρ w ac b k cs hB hR hA hF ht;obtain⟨e,a₁,σ₁,ρ₁,w₁,ac₁,hq,hR₁,hA₁,hf₁,ht₁,harr⟩:=h B ρ w ac b k cs hB hR hA hF ht;refine⟨e,a₁,σ₁,ρ₁,w₁,ac₁,hq,hR₁,hA₁,hf₁,ht₁, ?_⟩;have sw:∀{m'},lone (atR b ac (.code (.loop c)::k)) (qfn cs a.tk) w≠m'→Steps P (lone (atR b ac (.code (.loop c)::k)) (qfn cs a.tk) w) m'→Steps P (lone (atR b ac (.inLoop c::k)) (qfn cs a.tk) w) m':=
  λhn h=>Steps.skip qzu qyn h hn
 cases e with
 |normal=>
  refine sw (λhe=> ?_) harr
  have:=congrArg (λf:Frame=>f.todo.length) (qj3 he)
  simp [atR] at this
 |exit i=>
  obtain⟨t,h1,h2⟩:=harr;refine⟨t,h1,sw (λhe=> ?_) h2⟩
  have:=congrArg (λf:Frame=>f.todo) (qj3 he)
  simp [atR] at this
 |goto l=>
  obtain⟨t,h1,h2⟩:=harr;refine⟨t,h1,sw (λhe=> ?_) h2⟩
  have:=congrArg (λf:Frame=>f.todo) (qj3 he)
  simp [atR] at this
 |ret=>
  obtain⟨t,h2⟩:=harr;refine⟨t,sw (λhe=> ?_) h2⟩
  have:=congrArg (λf:Frame=>f.todo) (qj3 he)
  simp [atR] at this
 |panic v=>
  obtain⟨t,v',h1,h2⟩:=harr;refine⟨t,v',h1,sw (λhe=> ?_) h2⟩
  have:=congrArg (λf:Frame=>f.mode) (qj3 he)
  simp [atR,qhp] at this
end
def qnu (E:Env):Prop:=∀f g,E.gam f=some g→∀(args:Array Value) (σ:CSt) (v:Value) (σ':CSt),g args σ=some (v,σ')→∀Q:Out→CSt→Prop,Q (.ret v false) σ'→qfe E.P f args none σ Q
theorem sim_all {E:Env} (G:Good E.P) (HE:qmj E) (HG:qnu E) (t:Task) (σ:CSt) (Q:Out→CSt→Prop) (h:F qg7 E (qj5 E.P) t σ Q):qj5 E.P t σ Q:=by
 cases t with
 |ops x ops todo a=>exact zb6 G HE h
 |fn f args dk=>exact sim_fn HG h
 |unw x a m=>exact sim_unw G h
 |round l args=>exact qyv G h
 |scope x body c a=>
  simp only [F] at h;exact qzx h
 |code x c a=>
  cases c with
  |skip=>exact sim_skip h
  |label l=>exact zb0 h
  |region id ops draw=>
   cases draw with
   |false=>
    simp only [F] at h;exact qf4.steps (todo₁:=λk=> .inRegion ops (List.range ops.size)::k) h λb ac k cs w=> .one zan
   |true=>
    have hpl:∃l,Fix ops (bef ops)∧(∀i,i<ops.size→i∈l)∧qbu E.P ops (bef ops) l []=true∧(∀i o,ops[i]? =some o→∀e∈o.after,Region.binds .any e=true→e.on<i)∧True:=by
     simp only [F] at h;split at h
     ·rename_i hp;obtain⟨hfix,hall,hback,hst⟩:=qjo hp;exact⟨_,hfix,hall,qft hst,hback,trivial⟩
     ·split at h
      ·rename_i hp;have h1:=hp;simp only [qjv,Bool.and_eq_true,List.all_eq_true] at h1;cases hps:qe6 E.P ops with
       |nil=>
        have h2:=h1.2;rw [hps] at h2;simp at h2
       |cons l ls=>
        obtain⟨hfix,hall,hback,hst⟩:=qm3 (h1.1.1 l (by rw [hps];simp))
        exact⟨_,hfix,hall,hst,hback,trivial⟩
      ·exact h.elim
    obtain⟨_,hfix,_,_,hback,_⟩:=hpl;intro B ρ w ac b k cs hB hR hA hF ht;have hsw:Sw w {w with drawn:=w.drawn+1}:=⟨rfl,rfl,rfl,rfl⟩
    have hstep:=qmg (P:=E.P) (b:=b) (a:=ac) (k:=k) (cs:=qfn cs a.tk) (w:=w) (ops:=ops) (id:=id);rw [G.mixed] at hstep;obtain⟨hR',hf'⟩:=hR.same hsw;have hord:=qqj hback (w.tape w.drawn (.order b.fn id));have hex:∃l,qbu E.P ops (bef ops) l []=true∧(∀i,i<ops.size→i∈l)∧qg8 E.P ops l=qg8 E.P ops (Region.schedule true ops (w.tape w.drawn (.order b.fn id)))∧dgo qg7 E (qj5 E.P) ops (bef ops) a Q l a σ []:=by
     simp only [F] at h;split at h
     ·rename_i hp;obtain⟨_,hall,_,hst⟩:=qjo hp;exact⟨_,qft hst,hall,qpa hp hord,h⟩
     ·split at h
      ·rename_i hp;obtain⟨j,h1,h2,h3⟩:=qsz hp hord;obtain⟨_,hall,_,hst⟩:=qm3 h2;refine⟨_,hst,hall,h3, ?_⟩;simp only [qmc] at h;by_cases hn:(qe6 E.P ops).length≤1
       ·rw [if_pos hn] at h;have:j=0:=by omega
        rw [this];exact h
       ·rw [if_neg hn] at h;exact h j h1
      ·exact h.elim
    obtain⟨l,hst,hall,hfo,hd⟩:=hex;have hinv:Inv E.P ops (bef ops) a [] l [] (λ_=>undef) a a σ []:=
     ⟨hst,λi hi=> .inr (hall i hi),by simp,by simp,by simp,by simp,by simp,by simp,Put.start ..,Put.start ..,by simp⟩
    have:=(qgi (x:=x) G HE hfix _ [] [] _ _ _ _ _ _ hord hfo hinv hd).lower;obtain⟨e,a₁,σ₁,ρ₁,w₁,ac₁,hq,hR₁,hA₁,hf₁,ht₁,harr⟩:=this B ρ {w with drawn:=w.drawn+1} ac b k cs (Nat.le_trans hB hf'.size) hR' (hA.frm hf') hF ht
    exact⟨e,a₁,σ₁,ρ₁,w₁,ac₁,hq,hR₁,hA₁,hf'.trans hf₁,ht₁, .of_steps (.one hstep) harr⟩
  |seq c d=>
   simp only [F] at h;refine qf4.then (it:= .code d) (todo₁:=λk=> .code c::k) trivial ?_ λb ac k cs w=> .one st_seq
   exact h
  |cond c t e=>
   simp only [F] at h;split at h
   ·rename_i bb hb;intro B ρ w ac b k cs hB hR hA hF ht;have hv:=hA.eval hR c;rw [hb] at hv;have hc:ac.eval c= .bool bb:=by
     generalize ac.eval c=u at hv;cases hv with
     |plain v hf=>rfl
    obtain⟨e,a₁,σ₁,ρ₁,w₁,ac₁,hq,hR₁,hA₁,hf₁,ht₁,harr⟩:=h B ρ w ac b k cs hB hR hA hF ht;exact⟨e,a₁,σ₁,ρ₁,w₁,ac₁,hq,hR₁,hA₁,hf₁,ht₁, .of_steps (.one (st_cond hc)) harr⟩
   ·exact h.elim
  |block id c=>
   simp only [F] at h;exact qzy h
  |loop c=>
   simp only [F] at h;refine qf4.then (it:= .inLoop c) (todo₁:=λk=> .code c::k) trivial ?_ λb ac k cs w=> .one qzu
   simp only [qj5] at h;refine qf4.mono (λo σ hq=> ?_) h
   split at hq
   ·exact qz4 hq
   ·rename_i hn;cases o with
    |code e a'=>
     cases e with
     |normal=>exact absurd rfl (hn _)
     |_=>exact hq
    |_=>exact hq
  |rangeFunc f ps asg body=>exact zag G h
  |exit i=>exact .now h fun ρ b ac k cs w=>⟨k,rfl, .refl ..⟩
  |scope body=>
   simp only [F] at h;exact qf4.steps (todo₁:=λk=> .code body:: .inScope body::k) h λb ac k cs w=> .one st_scope
  |goto l=>exact .now h fun ρ b ac k cs w=>⟨k,rfl, .refl ..⟩
  |ret=>exact .now h fun ρ b ac k cs w=>⟨k, .refl ..⟩
  |refuse _=>exact h.elim
theorem W.sim {E:Env} (G:Good E.P) (HE:qmj E) (HG:qnu E) {t:Task} {σ:CSt} {Q:Out→CSt→Prop} (h:W E t σ Q):qj5 E.P t σ Q:=h (qj5 E.P) (λ_ _ _ _ hq h=>qj5.mono hq h) (sim_all G HE HG)
section
variable {L:Type} {N:Lat L} {tr:L→Prop} {E:Env}
def Rel (tr:L→Prop) (X:Task→CSt→(Out→CSt→L)→L) (Y:Task→CSt→(Out→CSt→Prop)→Prop):Prop:=
 ∀t σ Q Q',(∀o s,tr (Q o s)→Q' o s)→tr (X t σ Q)→Y t σ Q'
theorem qeh (hno:¬tr N.no) {X:Task→CSt→(Out→CSt→L)→L} {Y:Task→CSt→(Out→CSt→Prop)→Prop} (H:Rel tr X Y) {fv:Value} {args:Array Value} {dk:Option (Option Value)} {σ:CSt} {Q:Out→CSt→L} {Q':Out→CSt→Prop}
  (hq:∀o s,tr (Q o s)→Q' o s) (h:tr (qf6 N X fv args dk σ Q)):qf6 qg7 Y fv args dk σ Q':=by
 unfold qf6 at h⊢;split at h
 ·exact H _ _ _ _ hq h
 ·split at h
  ·exact absurd h hno
  ·rename_i hd;rw [if_neg hd];exact H _ _ _ _ hq h
 ·exact absurd h hno
theorem qjm (hno:¬tr N.no) {X:Task→CSt→(Out→CSt→L)→L} {Y:Task→CSt→(Out→CSt→Prop)→Prop} (H:Rel tr X Y) {ops:Array Oper} {b:Array Nat} {a0:CAct} {Q:Out→CSt→L} {Q':Out→CSt→Prop}
  (hq:∀o s,tr (Q o s)→Q' o s):∀(l:List Nat) (a:CAct) (σ:CSt) (rs:List Rec),tr (dgo N E X ops b a0 Q l a σ rs)→dgo qg7 E Y ops b a0 Q' l a σ rs
 | [],a,σ,rs,h=>hq _ _ h
 |i::rest,a,σ,rs,h=>by
  unfold dgo at h⊢;simp only at h⊢;cases hw:qaz ops a (qal ops i) with
  |none=>rw [hw] at h;exact absurd h hno
  |some wb=>
   rw [hw] at h;cases wb with
   |false=>exact qjm hno H hq rest _ _ _ h
   |true=>
    simp only at h⊢;by_cases he:qab E.P (qal ops i)=true
    ·rw [if_pos he] at h⊢;cases hc:cop E.P σ a.eval (qal ops i) with
     |val v σ'=>
      rw [hc] at h;simp only at h⊢;split at h
      ·rename_i hr;rw [if_pos hr];exact qjm hno H hq rest _ _ _ h
      ·exact absurd h hno
     |call fv args=>
      rw [hc] at h;simp only at h⊢;cases hx:qcr E fv args σ with
      |some v=>rw [hx] at h;exact absurd h hno
      |none=>
      rw [hx] at h;simp only at h⊢;refine qeh hno H (λo s ho=> ?_) h
      cases o with
      |ret v tk=>
       simp only at ho⊢;split at ho
       ·rename_i hr;rw [if_pos hr];exact qjm hno H hq rest _ _ _ ho
       ·exact absurd ho hno
      |pan v=>exact hq _ _ ho
      |code e a=>exact absurd ho hno
     |_=>rw [hc] at h;exact absurd h hno
    ·rw [if_neg he] at h⊢;cases hc:cop E.P σ a.eval (qal ops i) with
     |val v σ'=>rw [hc] at h;exact qjm hno H hq rest _ _ _ h
     |_=>rw [hc] at h;exact absurd h hno
theorem qpe (hall:∀n k,tr (N.all n k)→∀i,i<n→tr (k i)) {n:Nat} {k:Nat→L} {k':Nat→Prop} (hk:∀i,tr (k i)→k' i) (h:tr (qmc N n k)):qmc qg7 n k':=by
 unfold qmc at h⊢;by_cases hn:n≤1
 ·rw [if_pos hn] at h⊢;exact hk _ h
 ·rw [if_neg hn] at h⊢;exact λi hi=>hk i (hall _ _ h i hi)
theorem F_rel (hno:¬tr N.no) (hall:∀n k,tr (N.all n k)→∀i,i<n→tr (k i)) (hev:∀p k,tr (N.every p k)→∀i,p i=true→tr (k i)) {X:Task→CSt→(Out→CSt→L)→L} {Y:Task→CSt→(Out→CSt→Prop)→Prop} (H:Rel tr X Y):Rel tr (F N E X) (F qg7 E Y):=by
 intro t σ Q Q' hq h;cases t with
 |code x c a=>
  cases c with
  |skip=>exact hq _ _ h
  |label l=>exact hq _ _ h
  |region id ops draw=>
   cases draw with
   |false=>exact H _ _ _ _ hq h
   |true=>
    simp only [F] at h⊢;split at h
    ·rename_i hp;rw [if_pos hp];exact qjm hno H hq _ _ _ _ h
    ·rename_i hp;rw [if_neg hp];split at h
     ·rename_i hp2;rw [if_pos hp2];exact qpe hall (λi hi=>qjm hno H hq _ _ _ _ hi) h
     ·exact absurd h hno
  |seq c d=>
   refine H _ _ _ _ (λo s ho=> ?_) h
   split at ho
   ·exact H _ _ _ _ hq ho
   ·rename_i hn;cases o with
    |code e a'=>cases e with
     |normal=>exact absurd rfl (hn _)
     |_=>exact hq _ _ ho
    |_=>exact hq _ _ ho
  |cond c t e=>
   simp only [F] at h⊢;cases hc:a.eval c with
   |bool b=>rw [hc] at h;exact H _ _ _ _ hq h
   |_=>rw [hc] at h;exact absurd h hno
  |block id c=>
   refine H _ _ _ _ (λo s ho=> ?_) h
   cases o with
   |code e a'=>cases e with
    |exit i=>
     simp only at ho⊢;by_cases hi:i=id
     ·rw [if_pos hi] at ho⊢;exact hq _ _ ho
     ·rw [if_neg hi] at ho⊢;exact hq _ _ ho
    |_=>exact hq _ _ ho
   |_=>exact hq _ _ ho
  |loop c=>
   refine H _ _ _ _ (λo s ho=> ?_) h
   split at ho
   ·exact H _ _ _ _ hq ho
   ·rename_i hn;cases o with
    |code e a'=>cases e with
     |normal=>exact absurd rfl (hn _)
     |_=>exact hq _ _ ho
    |_=>exact hq _ _ ho
  |rangeFunc f ps asg body=>
   simp only [F] at h⊢;by_cases ha:qdc σ x.rnd=true
   ·simp only [ha,Bool.not_true,Bool.false_eq_true,if_false] at h⊢;refine qeh hno H (λo s ho=> ?_) h
    cases o with
    |ret v tk=>
     simp only at ho⊢;split at ho
     ·rename_i st pend fn tm sz ps asg body hg;split at ho
      ·exact absurd ho hno
      ·rename_i hb;rw [if_neg hb];cases pend with
       |none=>exact hq _ _ ho
       |some c=>exact H _ _ _ _ hq ho
     ·exact absurd ho hno
    |pan v=>exact hq _ _ ho
    |code e a=>exact absurd ho hno
   ·simp only [ha,Bool.not_false,if_true] at h;exact absurd h hno
  |exit i=>exact hq _ _ h
  |scope body=>exact H _ _ _ _ hq h
  |goto l=>exact hq _ _ h
  |ret=>exact hq _ _ h
  |refuse _=>exact absurd h hno
 |scope x body c a=>
  refine H _ _ _ _ (λo s ho=> ?_) h
  cases o with
  |code e a'=>cases e with
   |goto l=>
    simp only at ho⊢;cases hf:findLabel body l with
    |none=>rw [hf] at ho;exact hq _ _ ho
    |some rest=>rw [hf] at ho;exact H _ _ _ _ hq ho
   |_=>exact hq _ _ ho
  |_=>exact hq _ _ ho
 |ops x ops todo a=>
  cases todo with
  |nil=>exact hq _ _ h
  |cons i rest=>
   simp only [F] at h⊢;cases ho:ops[i]? with
   |none=>rw [ho] at h;exact H _ _ _ _ hq h
   |some o=>
    rw [ho] at h;simp only at h⊢;cases hw:qaz ops a o with
    |none=>rw [hw] at h;exact absurd h hno
    |some wb=>
     rw [hw] at h;cases wb with
     |false=>exact H _ _ _ _ hq h
     |true=>
      simp only at h⊢;cases hc:cop E.P σ a.eval o with
      |val v σ'=>rw [hc] at h;exact H _ _ _ _ hq h
      |pick n k=>rw [hc] at h;exact qpe hall (λi hi=>H _ _ _ _ hq hi) h
      |every p k=>rw [hc] at h;exact λi hi=>H _ _ _ _ hq (hev _ _ h i hi)
      |call fv args=>
       rw [hc] at h;simp only at h⊢;cases hx:qcr E fv args σ with
       |some v=>rw [hx] at h;exact H _ _ _ _ hq h
       |none=>
       rw [hx] at h;simp only at h⊢;refine qeh hno H (λo s ho=> ?_) h
       cases o with
       |ret v tk=>exact H _ _ _ _ hq ho
       |pan v=>exact hq _ _ ho
       |code e a=>exact absurd ho hno
      |panic v=>rw [hc] at h;exact hq _ _ h
      |defer d=>
       rw [hc] at h;simp only at h⊢;split at h
       ·exact absurd h hno
       ·rename_i hr;rw [if_neg hr];exact H _ _ _ _ hq h
      |recover=>
       rw [hc] at h;simp only at h⊢;split at h
       ·exact absurd h hno
       ·rename_i hr;rw [if_neg hr];split at h
        ·exact H _ _ _ _ hq h
        ·exact H _ _ _ _ hq h
      |fail=>rw [hc] at h;exact absurd h hno
 |fn f args dk=>
  simp only [F] at h⊢;split at h
  ·exact λi hi=>H _ _ _ _ hq (hev _ _ h i hi)
  split at h
  ·split at h
   ·exact hq _ _ h
   ·exact absurd h hno
  ·split at h
   ·split at h
    ·refine H _ _ _ _ (λo s ho=> ?_) h
     cases o with
     |code e a=>cases e with
      |normal=>exact H _ _ _ _ hq ho
      |ret=>exact H _ _ _ _ hq ho
      |panic v=>exact H _ _ _ _ hq ho
      |_=>exact absurd ho hno
     |_=>exact absurd ho hno
    ·exact absurd h hno
   ·exact absurd h hno
 |unw x a m=>
  simp only [F] at h⊢;cases hd:a.df with
  |nil=>
   rw [hd] at h;simp only at h⊢;cases m with
   |none=>
    simp only at h⊢;split at h
    ·split at h
     ·exact hq _ _ h
     ·exact absurd h hno
    ·exact absurd h hno
   |some v=>
    simp only at h⊢;split at h
    ·exact absurd h hno
    ·rename_i hx;rw [if_neg hx];split at h
     ·exact hq _ _ h
     ·exact absurd h hno
  |cons d ds=>
   rw [hd] at h;refine qeh hno H (λo s ho=> ?_) h
   cases o with
   |ret v tk=>exact H _ _ _ _ hq ho
   |_=>exact absurd ho hno
 |round l args=>
  simp only [F] at h⊢;cases hg:σ.get l with
  |none=>rw [hg] at h;exact absurd h hno
  |some ob=>
   rw [hg] at h;cases ob with
   |loop st pend fn tm sz ps asg body=>
    simp only at h⊢;by_cases hs:args.size=ps.size
    ·rw [if_pos hs] at h⊢;refine H _ _ _ _ (λo s ho=> ?_) h
     cases o with
     |code e a1=>cases e with
      |normal=>
       simp only at ho⊢;split at ho
       ·rename_i hg';refine H _ _ _ _ (λo s ho=> ?_) ho
        cases o with
        |code e a2=>
         simp only at ho⊢;cases hj:qgm e with
         |some j=>
          rw [hj] at ho;simp only at ho⊢;split at ho
          ·exact hq _ _ ho
          ·exact absurd ho hno
         |none=>
          rw [hj] at ho;simp only at ho⊢;cases e with
          |panic v=>
           simp only at ho⊢;split at ho
           ·rename_i hdf;rw [if_pos hdf];split at ho
            ·exact hq _ _ ho
            ·exact absurd ho hno
           ·exact absurd ho hno
          |_=>exact absurd ho hno
        |_=>exact absurd ho hno
       ·exact absurd ho hno
      |_=>exact absurd ho hno
     |_=>exact absurd ho hno
    ·rw [if_neg hs] at h;exact absurd h hno
   |_=>exact absurd h hno
end
theorem F_mono {E:Env} {X Y:Task→CSt→(Out→CSt→Prop)→Prop} (hY:QMono Y) (hXY:∀t σ Q,X t σ Q→Y t σ Q) {t:Task} {σ:CSt} {Q:Out→CSt→Prop} (h:F qg7 E X t σ Q):F qg7 E Y t σ Q:=
 F_rel (tr:=id) (N:=qg7) (λh=>h) (λn k h i hi=>h i hi) (λp k h i hi=>h i hi) (λt σ Q Q' hq h=>hY t σ Q Q' hq (hXY t σ Q h)) t σ Q Q (λo s h=>h) h
theorem W.mono {E:Env}:QMono (W E):=λt σ Q Q' hq h X hX hc=>hX t σ Q Q' hq (h X hX hc)
theorem W.weaken {E:Env} {t:Task} {σ:CSt} {Q Q':Out→CSt→Prop} (h:W E t σ Q) (hq:∀o s,Q o s→Q' o s):W E t σ Q':=W.mono t σ Q Q' hq h
theorem W.fold {E:Env} {t:Task} {σ:CSt} {Q:Out→CSt→Prop} (h:F qg7 E (W E) t σ Q):W E t σ Q:=λX hX hc=>hc t σ Q (F_mono hX (λt σ Q h=>h X hX hc) h)
theorem runB_W {E:Env}:∀(n:Nat) {t:Task} {σ:CSt} {q:Out→CSt→Bool},runB E n t σ q=true→W E t σ λo s=>q o s=true
 |0,t,σ,q,h=>by simp [runB] at h
 |n+1,t,σ,q,h=>by
  have H:Rel (λb:Bool=>b=true) (runB E n) (W E):=λt σ Q Q' hq h=>(runB_W n h).weaken hq
  have:=F_rel (tr:=λb:Bool=>b=true) (N:=latB) (E:=E) (by simp [latB]) (λn k h i hi=>by
   simp only [latB,List.all_eq_true,List.mem_range] at h
   exact h i hi) (λp k h=>by simp [latB] at h) H t σ q (λo s=>q o s=true) (λo s h=>h) (by unfold runB at h;exact h)
  exact W.fold this
def Ext (σ₀ σ:CSt):Prop:=∀i o,σ₀.get i=some o→σ.get i=some o
structure Base (σ₀:CSt):Prop where
 n:σ₀.n=qb8
 ro:∀i o,σ₀.get i=some o→i<qb8∧∃c e,o= .cells c e true∧∀v∈c,qae v=true
theorem R.grow {P:Program} {ρ:Rho} {σ:CSt} {w w':World} (h:R P ρ σ w) (hs:w.heap.size≤w'.heap.size) (hk:∀k,k<w.heap.size→w'.heap[k]? =w.heap[k]?):R P ρ σ w':=by
 refine⟨h.dom,h.tot,λi p a b=>Nat.lt_of_lt_of_le (h.lt i p a b) hs,λi o p a b=> ?_,h.inj,h.glob,h.gn⟩
 by_cases hd:o= .dead
 ·subst hd;exact h.obj i _ p a b
 ·exact(h.obj i o p a b).congr (hk _ (h.lt i p b ⟨o,a,hd⟩))
theorem Base.rel {P:Program} {σ₀ σ:CSt} (hb:Base σ₀) (hx:Ext σ₀ σ) {ρ:Rho} {w:World} (h:R P ρ σ w):R P (λi=>if i<qb8 then ρ i else none) σ₀ w:=by
 have hnd:∀i o,σ₀.get i=some o→o≠ .dead∧o.isRo=true∧i<qb8:=λi o ho=>by
  obtain⟨h1,c,e,rfl,_⟩:=hb.ro i o ho;exact⟨by simp,rfl,h1⟩
 refine⟨λi hi=> ?_,λi hl=> ?_,λi p hp hl=> ?_,λi o p ho hp=> ?_,λi j p q hn hp hq hr=> ?_,λg hg=> ?_,by rw [hb.n];exact Nat.le_refl _⟩
 ·rw [hb.n] at hi;exact if_neg (by omega)
 ·obtain⟨o,ho,_⟩:=hl;have:=hnd i o ho;rw [if_pos this.2.2];exact h.tot i ⟨o,hx i o ho,this.1⟩
 ·obtain⟨o,ho,_⟩:=hl;have:=hnd i o ho;rw [if_pos this.2.2] at hp;exact h.lt i p hp ⟨o,hx i o ho,this.1⟩
 ·have hh:=hnd i o ho;rw [if_pos hh.2.2] at hp;obtain⟨_,c,e,rfl,hc⟩:=hb.ro i o ho;obtain⟨g1,g2⟩:=h.obj i _ p (hx i _ ho) hp;refine⟨g1,λk u=> ?_⟩
  obtain⟨v',g3,g4⟩:=g2 k u;have hf:=hc _ (List.getElem_mem u);have:=g4.flat_eq hf;subst this;exact⟨_,g3, .plain _ hf⟩
 ·obtain⟨o,ho,hr,_⟩:=hr;rw [(hnd i o ho).2.1] at hr;cases hr
 ·obtain⟨p,h1,h2⟩:=h.glob g hg;exact⟨p,by rw [if_pos hg];exact h1,h2⟩
theorem base_fn {E:Env} (G:Good E.P) (HE:qmj E) (HG:qnu E) {σ₀:CSt} (hb:Base σ₀) {f:FuncId} {args:Array Value} {v:Value} (hW:W E (.fn f args none) σ₀ λo _=>o= .ret v false) (ha:∀a∈args,qae a=true) (hv:qae v=true)
  {σ:CSt} (hx:Ext σ₀ σ) {Q:Out→CSt→Prop} (hq:Q (.ret v false) σ):qfe E.P f args none σ Q:=by
 obtain⟨hbody,hs⟩:=hW.sim G HE HG;refine⟨hbody,fun ρ w args' cs hR hA hd=> ?_⟩
 have heq:args'=args:=by
  apply Array.ext
  ·exact hA.1.symm
  ·intro i h1 h2;have:=hA.2 i h2 h1;exact this.flat_eq (ha _ (Array.getElem_mem h2))
 subst heq;have hA0:AsR (λi=>if i<qb8 then ρ i else none) args' args':=⟨rfl,λi u _=> .plain _ (ha _ (Array.getElem_mem u))⟩
 rcases hs _ w args' cs (hb.rel hx hR) hA0 hd with⟨v1,tk,σ',ρ',w',v',fr,h1,h2,h3,h4,h5,h0,h6,h7,h8,h9,fn,h10,h11⟩|⟨v1,σ',ρ',w',v',fr,h1,h2⟩
 ·cases h1;have:=h4.flat_eq hv;subst this;have hk:∀k,k<w.heap.size→w'.heap[k]? =w.heap[k]? :=λk hk=>h3.keep k hk λi p _ hr=>by
   obtain⟨o,ho,hro,_⟩:=hr;obtain⟨_,c,e,rfl,_⟩:=hb.ro i o ho;cases hro
  exact .inl ⟨v',false,σ,ρ,w',v',fr,hq,hR.grow h3.size hk,⟨ρ.le_refl,h3.os,h3.tape,h3.output,h3.size,λk hkk _=>hk k hkk,λi p a b=> .inr ⟨i,p,a,b,rfl⟩⟩, .plain _ hv,h5,h0,h6,h7,h8,h9,fn,h10,h11⟩
 ·cases h1
theorem W.calls {E:Env} (G:Good E.P) (HE:qmj E) (HG:qnu E) {f:FuncId} {args args':Array Value} {σ:CSt} {Q:Value→CSt→Prop} (hW:W E (.fn f args none) σ λo s=>∃v,o= .ret v false∧Q v s) {ρ:Rho} {w:World} (hR:R E.P ρ σ w) (hA:AsR ρ args args'):
  Calls E.P f args' w λe w'=>∃v v' σ' ρ',e= .returned v'∧Q v σ'∧R E.P ρ' σ' w'∧VR ρ' v v'∧Frm ρ σ w ρ' σ' w':=by
 obtain⟨_,hs⟩:=hW.sim G HE HG;intro cs;rcases hs ρ w args' cs hR hA rfl with⟨v1,tk,σ',ρ',w',v',fr,h1,h2,h3,h4,h5,h0,h6,h7,h8,h9,fn,h10,h11⟩|⟨v1,σ',ρ',w',v',fr,h1,h2⟩
 ·obtain⟨v,h1,hq⟩:=h1;cases h1;exact⟨.returned v',w',fr,⟨_,v',σ',ρ',rfl,hq,h2,h4,h3.toFrm⟩,h5,h6,h8,h9,h7,fn,by rw [h6];exact h10,h11⟩
 ·obtain⟨v,h1,_⟩:=h1;cases h1
section
variable {E:Env}
theorem F_QMono:QMono (F qg7 E (W E)):=λt σ Q Q' hq h=>
 F_rel (tr:=id) (N:=qg7) (λh=>h) (λn k h i hi=>h i hi) (λp k h i hi=>h i hi) (λt σ Q Q' hq h=>W.mono t σ Q Q' hq h) t σ Q Q' hq h
theorem qm5 (t:Task) (σ:CSt) (Q:Out→CSt→Prop):W E t σ Q=F qg7 E (W E) t σ Q:=
 propext ⟨λh=>h (F qg7 E (W E)) F_QMono λt σ Q h=>F_mono W.mono (λt σ Q h=>W.fold h) h,W.fold⟩
def kseq (E:Env) (x:Ctx) (d:Code) (Q:Out→CSt→Prop):Out→CSt→Prop:=λo σ=>match o with| .code .normal a=>W E (.code x d a) σ Q|o=>Q o σ
def qws (E:Env) (x:Ctx) (c:Code) (Q:Out→CSt→Prop):Out→CSt→Prop:=λo σ=>match o with| .code .normal a=>W E (.code x (.loop c) a) σ Q|o=>Q o σ
def ql5 (id:Nat) (Q:Out→CSt→Prop):Out→CSt→Prop:=λo σ=>match o with| .code (.exit i) a=>if i=id then Q (.code .normal a) σ else Q o σ|o=>Q o σ
def qp6 (E:Env) (x:Ctx) (body:Code) (Q:Out→CSt→Prop):Out→CSt→Prop:=λo σ=>match o with
 | .code (.goto l) a=>match findLabel body l with|some rest=>W E (.scope x body rest a) σ Q|none=>Q o σ
 |o=>Q o σ
def kfn (E:Env) (x:Ctx) (Q:Out→CSt→Prop):Out→CSt→Prop:=λo σ=>match o with
 | .code .normal a| .code .ret a=>W E (.unw x a none) σ Q
 | .code (.panic v) a=>W E (.unw x a (some v)) σ Q
 |_=>False
def kcall (E:Env) (x:Ctx) (ops:List Oper) (a:CAct) (d:Option Tmp) (K:CAct→CSt→Prop) (Q:Out→CSt→Prop):Out→CSt→Prop:=λo σ=>match o with
 | .ret v _=>K (a.put d v) σ
 | .pan v=>Q (.code (.panic v) a) σ
 |_=>False
theorem W_skip {x:Ctx} {a:CAct} {σ:CSt} {Q:Out→CSt→Prop}:W E (.code x .skip a) σ Q=Q (.code .normal a) σ:=by rw [qm5];rfl
theorem W_label {x:Ctx} {l:Nat} {a:CAct} {σ:CSt} {Q:Out→CSt→Prop}:W E (.code x (.label l) a) σ Q=Q (.code .normal a) σ:=by rw [qm5];rfl
theorem W_exit {x:Ctx} {i:Nat} {a:CAct} {σ:CSt} {Q:Out→CSt→Prop}:W E (.code x (.exit i) a) σ Q=Q (.code (.exit i) a) σ:=by rw [qm5];rfl
theorem W_goto {x:Ctx} {i:Nat} {a:CAct} {σ:CSt} {Q:Out→CSt→Prop}:W E (.code x (.goto i) a) σ Q=Q (.code (.goto i) a) σ:=by rw [qm5];rfl
theorem W_ret {x:Ctx} {a:CAct} {σ:CSt} {Q:Out→CSt→Prop}:W E (.code x .ret a) σ Q=Q (.code .ret a) σ:=by rw [qm5];rfl
theorem qsg {x:Ctx} {c d:Code} {a:CAct} {σ:CSt} {Q:Out→CSt→Prop}:W E (.code x (.seq c d) a) σ Q=W E (.code x c a) σ (kseq E x d Q):=by rw [qm5];rfl
theorem qyh {x:Ctx} {id:Nat} {c:Code} {a:CAct} {σ:CSt} {Q:Out→CSt→Prop}:W E (.code x (.block id c) a) σ Q=W E (.code x c a) σ (ql5 id Q):=by rw [qm5];rfl
theorem qeq {x:Ctx} {c:Code} {a:CAct} {σ:CSt} {Q:Out→CSt→Prop}:W E (.code x (.loop c) a) σ Q=W E (.code x c a) σ (qws E x c Q):=by rw [qm5];rfl
theorem W_scope {x:Ctx} {c:Code} {a:CAct} {σ:CSt} {Q:Out→CSt→Prop}:W E (.code x (.scope c) a) σ Q=W E (.scope x c c a) σ Q:=by rw [qm5];rfl
theorem W_scoped {x:Ctx} {b c:Code} {a:CAct} {σ:CSt} {Q:Out→CSt→Prop}:W E (.scope x b c a) σ Q=W E (.code x c a) σ (qp6 E x b Q):=by rw [qm5];rfl
theorem qfz {x:Ctx} {d:Code} {a:CAct} {σ:CSt} {Q:Out→CSt→Prop}:kseq E x d Q (.code .normal a) σ=W E (.code x d a) σ Q:=(rfl)
theorem zb1 {x:Ctx} {d:Code} {a:CAct} {σ:CSt} {Q:Out→CSt→Prop} {i:Nat}:kseq E x d Q (.code (.exit i) a) σ=Q (.code (.exit i) a) σ:=(rfl)
theorem zbj {x:Ctx} {d:Code} {a:CAct} {σ:CSt} {Q:Out→CSt→Prop} {i:Nat}:kseq E x d Q (.code (.goto i) a) σ=Q (.code (.goto i) a) σ:=(rfl)
theorem kseq_ret {x:Ctx} {d:Code} {a:CAct} {σ:CSt} {Q:Out→CSt→Prop}:kseq E x d Q (.code .ret a) σ=Q (.code .ret a) σ:=(rfl)
theorem qwc {x:Ctx} {d:Code} {a:CAct} {σ:CSt} {Q:Out→CSt→Prop} {v:Value}:kseq E x d Q (.code (.panic v) a) σ=Q (.code (.panic v) a) σ:=(rfl)
theorem qpv {x:Ctx} {d:Code} {a:CAct} {σ:CSt} {Q:Out→CSt→Prop}:qws E x d Q (.code .normal a) σ=W E (.code x (.loop d) a) σ Q:=(rfl)
theorem qwa {x:Ctx} {d:Code} {a:CAct} {σ:CSt} {Q:Out→CSt→Prop} {i:Nat}:qws E x d Q (.code (.exit i) a) σ=Q (.code (.exit i) a) σ:=(rfl)
theorem qwx {x:Ctx} {d:Code} {a:CAct} {σ:CSt} {Q:Out→CSt→Prop} {i:Nat}:qws E x d Q (.code (.goto i) a) σ=Q (.code (.goto i) a) σ:=(rfl)
theorem qzt {x:Ctx} {d:Code} {a:CAct} {σ:CSt} {Q:Out→CSt→Prop}:qws E x d Q (.code .ret a) σ=Q (.code .ret a) σ:=(rfl)
theorem qts {x:Ctx} {d:Code} {a:CAct} {σ:CSt} {Q:Out→CSt→Prop} {v:Value}:qws E x d Q (.code (.panic v) a) σ=Q (.code (.panic v) a) σ:=(rfl)
theorem qig {id:Nat} {a:CAct} {σ:CSt} {Q:Out→CSt→Prop}:ql5 id Q (.code .normal a) σ=Q (.code .normal a) σ:=(rfl)
theorem qtr {id:Nat} {a:CAct} {σ:CSt} {Q:Out→CSt→Prop}:ql5 id Q (.code (.exit id) a) σ=Q (.code .normal a) σ:=by simp [ql5]
theorem qt1 {id i:Nat} {a:CAct} {σ:CSt} {Q:Out→CSt→Prop}:ql5 id Q (.code (.goto i) a) σ=Q (.code (.goto i) a) σ:=(rfl)
theorem qxj {id:Nat} {a:CAct} {σ:CSt} {Q:Out→CSt→Prop}:ql5 id Q (.code .ret a) σ=Q (.code .ret a) σ:=(rfl)
theorem qqt {id:Nat} {a:CAct} {σ:CSt} {Q:Out→CSt→Prop} {v:Value}:ql5 id Q (.code (.panic v) a) σ=Q (.code (.panic v) a) σ:=(rfl)
theorem qo4 {x:Ctx} {d:Code} {a:CAct} {σ:CSt} {Q:Out→CSt→Prop}:qp6 E x d Q (.code .normal a) σ=Q (.code .normal a) σ:=(rfl)
theorem qt7 {x:Ctx} {d:Code} {a:CAct} {σ:CSt} {Q:Out→CSt→Prop} {i:Nat}:qp6 E x d Q (.code (.exit i) a) σ=Q (.code (.exit i) a) σ:=(rfl)
theorem qwk {x:Ctx} {d:Code} {a:CAct} {σ:CSt} {Q:Out→CSt→Prop}:qp6 E x d Q (.code .ret a) σ=Q (.code .ret a) σ:=(rfl)
theorem qro {x:Ctx} {d:Code} {a:CAct} {σ:CSt} {Q:Out→CSt→Prop} {v:Value}:qp6 E x d Q (.code (.panic v) a) σ=Q (.code (.panic v) a) σ:=(rfl)
theorem qxx {x:Ctx} {a:CAct} {σ:CSt} {Q:Out→CSt→Prop}:kfn E x Q (.code .normal a) σ=W E (.unw x a none) σ Q:=(rfl)
theorem kfn_ret {x:Ctx} {a:CAct} {σ:CSt} {Q:Out→CSt→Prop}:kfn E x Q (.code .ret a) σ=W E (.unw x a none) σ Q:=(rfl)
theorem qz8 {x:Ctx} {a:CAct} {σ:CSt} {Q:Out→CSt→Prop} {v:Value}:kfn E x Q (.code (.panic v) a) σ=W E (.unw x a (some v)) σ Q:=(rfl)
def qls (E:Env) (x:Ctx) (a:CAct) (d:Option Tmp) (K:CAct→CSt→Prop) (Q:Out→CSt→Prop) (σ:CSt):OpR→Prop
 | .val v σ'=>K (a.put d v) σ'
 | .pick n k=>qmc qg7 n λj=>K (a.put d (k j).1) (k j).2
 | .every p k=>∀j,p j=true→K (a.put d (k j).1) (k j).2
 | .call fv args=>
  match qcr E fv args σ with
  |some v=>K (a.put d v) σ
  |none=>qf6 qg7 (W E) fv args none σ λout σ'=>
   match out with
   | .ret v _=>K (a.put d v) σ'
   | .pan v=>Q (.code (.panic v) a) σ'
   |_=>False
 | .panic v=>Q (.code (.panic v) a) σ
 | .defer df=>if x.rnd.isSome then False else K ({a with df:=df::a.df}.put d undef) σ
 | .recover=>if x.rnd.isSome then False else
  match x.dk,a.tk with
  |some (some v),false=>K ({a with tk:=true}.put d v) σ
  |_,_=>K (a.put d .nilIface) σ
 | .fail=>False
def qo3 (E:Env) (x:Ctx) (ops:Array Oper) (Q:Out→CSt→Prop):List Oper→CAct→CSt→Prop
 | [],a,σ=>Q (.code .normal a) σ
 |o::rest,a,σ=>
  match qaz ops a o with
  |some true=>qls E x a o.dst (qo3 E x ops Q rest) Q σ (cop E.P σ a.eval o)
  |some false=>qo3 E x ops Q rest (a.put o.dst nope) σ
  |none=>False
theorem wops_W {x:Ctx} {ops:Array Oper} {Q:Out→CSt→Prop}:∀(l:List Oper) (n:Nat) (a:CAct) (σ:CSt),ops.toList.drop n=l→W E (.ops x ops ((List.range l.length).map (·+n)) a) σ Q=qo3 E x ops Q l a σ
 | [],n,a,σ,hl=>by
  rw [qm5]
  rfl
 |o::rest,n,a,σ,hl=>by
  have ho:ops[n]? =some o:=by
   have:(ops.toList.drop n)[0]? =some o:=by rw [hl];rfl
   rw [List.getElem?_drop] at this;simpa using this
  have hrest:ops.toList.drop (n+1)=rest:=by
   have:=congrArg List.tail hl;simpa [List.tail_drop] using this
  have hlist:(List.range (o::rest).length).map (·+n)=n::(List.range rest.length).map (·+(n+1)):=by
   rw [List.length_cons,List.range_succ_eq_map,List.map_cons,List.map_map]
   congr 1
   ·omega
   ·apply List.map_congr_left;intro k _;simp only [Function.comp];omega
  have ih:∀a σ,W E (.ops x ops ((List.range rest.length).map (·+(n+1))) a) σ Q=qo3 E x ops Q rest a σ:=λa σ=>wops_W rest (n+1) a σ hrest
  rw [hlist,qm5];simp only [F,ho];unfold qo3;cases hw:qaz ops a o with
  |none=>rfl
  |some wb=>
   cases wb with
   |false=>exact ih _ _
   |true=>
    simp only;cases hc:cop E.P σ a.eval o with
    |val v σ'=>exact ih _ _
    |pick m k=>simp only [qls,ih]
    |every p k=>simp only [qls,ih];rfl
    |call fv args=>
     simp only [qls,ih]
     rfl
    |panic v=>rfl
    |defer d=>simp only [qls,ih];rfl
    |recover=>simp only [qls,ih];rfl
    |fail=>rfl
theorem qim {x:Ctx} {id:Nat} {ops:Array Oper} {a:CAct} {σ:CSt} {Q:Out→CSt→Prop}:W E (.code x (.region id ops false) a) σ Q=qo3 E x ops Q ops.toList a σ:=by
 have:=wops_W (E:=E) (x:=x) (ops:=ops) (Q:=Q) ops.toList 0 a σ (by simp)
 rw [←this,qm5];simp [F]
theorem wops_nil {x:Ctx} {ops:Array Oper} {a:CAct} {σ:CSt} {Q:Out→CSt→Prop}:qo3 E x ops Q [] a σ=Q (.code .normal a) σ:=(rfl)
theorem qa0 {x:Ctx} {ops:Array Oper} {a:CAct} {σ:CSt} {Q:Out→CSt→Prop} {o:Oper} {rest:List Oper} (hg:o.guard=none):
  qo3 E x ops Q (o::rest) a σ=qls E x a o.dst (qo3 E x ops Q rest) Q σ (cop E.P σ a.eval o):=by
 rw [qo3];simp only [qaz,hg]
theorem wres_val {x:Ctx} {a:CAct} {d:Option Tmp} {K:CAct→CSt→Prop} {Q:Out→CSt→Prop} {σ σ':CSt} {v:Value}:qls E x a d K Q σ (.val v σ')=K (a.put d v) σ':=(rfl)
theorem qwz {x:Ctx} {a:CAct} {d:Option Tmp} {K:CAct→CSt→Prop} {Q:Out→CSt→Prop} {σ:CSt} {v:Value}:qls E x a d K Q σ (.panic v)=Q (.code (.panic v) a) σ:=(rfl)
theorem qap {f:FuncId} {fn:Func} {c:Code} (hf:E.P.funcs[f]? =some fn) (hb:fn.body=some c) (hg:E.gam f=none) (hn:E.bare f=none) {args:Array Value} {dk:Option (Option Value)} {σ:CSt} {Q:Out→CSt→Prop}:
  W E (.fn f args dk) σ Q=W E (.code ⟨f,none,dk⟩ c (qfu fn args)) σ (kfn E ⟨f,none,dk⟩ Q):=by
 rw [qm5];simp only [F,qlf,hn,hg,ite_self,hf,hb]
 rfl
theorem qj1 {f:FuncId} {g:Array Value→CSt→Option (Value×CSt)} (hg:E.gam f=some g) (hn:E.bare f=none) {args:Array Value} {σ σ':CSt} {v:Value} (h:g args σ=some (v,σ')) {Q:Out→CSt→Prop}:
  W E (.fn f args none) σ Q=Q (.ret v false) σ':=by
 rw [qm5];simp only [F,qlf,hn,hg,Option.isNone_none,if_true,h]
end
attribute [simp] W_skip W_label W_exit W_goto W_ret qsg qyh W_scope W_scoped qfz zb1 zbj kseq_ret qwc qpv qwa qwx qzt qts
 qig qtr qt1 qxj qqt qo4 qt7 qwk qro qxx kfn_ret qz8 qim wops_nil wres_val qwz
@[simp] theorem enterAct_def (fn:Func) (args:Array Value):qfu fn args={tm:=qfq args.toList 0 .nil,sz:=max args.size fn.ntmps,df:= [],tk:=false}:=(rfl)
@[simp] theorem enterTm_nil (i:Nat) (t:Tr Value):qfq [] i t=t:=(rfl)
@[simp] theorem enterTm_cons (v:Value) (l:List Value) (i:Nat) (t:Tr Value):qfq (v::l) i t=qfq l (i+1) (t.set i v):=(rfl)
@[simp] theorem get_mk (tm:Tr Value) (sz:Nat) (df:List CDef) (tk:Bool) (i:Nat):CAct.get ⟨tm,sz,df,tk⟩ i=(tm.get i).getD undef:=(rfl)
@[simp] theorem put_some (tm:Tr Value) (sz:Nat) (df:List CDef) (tk:Bool) (d:Nat) (v:Value) (h:d<sz):CAct.put ⟨tm,sz,df,tk⟩ (some d) v=⟨tm.set d v,sz,df,tk⟩:=by simp [CAct.put,h]
@[simp] theorem put_none (a:CAct) (v:Value):a.put none v=a:=(rfl)
@[simp] theorem eval_tmp (a:CAct) (t:Tmp):a.eval (.tmp t)=a.get t:=(rfl)
@[simp] theorem eval_const (a:CAct) (v:Value):a.eval (.const v)=if flat v then v else undef:=(rfl)
@[simp] theorem eval_global (a:CAct) (g:Nat):a.eval (.global g)=if g<qb8 then .pointer (some ⟨g,0,none⟩) else undef:=(rfl)
@[simp] theorem eval_func (a:CAct) (f:FuncId):a.eval (.func f)= .func (.func f) #[] #[]:=(rfl)
@[simp] theorem tr_same {α:Type} (t:Tr α) (i:Nat) (v:α):(t.set i v).get i=some v:=by rw [Tr.get_set,if_pos rfl]
@[simp] theorem tr_ne {α:Type} (t:Tr α) (i j:Nat) (v:α) (h:j≠i):(t.set i v).get j=t.get j:=by rw [Tr.get_set,if_neg h]
@[simp] theorem cells_agg (cs:Array Value):(Value.agg cs).cells=cs:=(rfl)
@[simp] theorem cells_int (k:IntKind) (n:Int):(Value.int k n).cells= #[.int k n]:=(rfl)
@[simp] theorem cells_bool (b:Bool):(Value.bool b).cells= #[.bool b]:=(rfl)
@[simp] theorem cells_string (s:ByteArray):(Value.string s).cells= #[.string s]:=(rfl)
@[simp] theorem cells_pointer (p:Option Addr):(Value.pointer p).cells= #[.pointer p]:=(rfl)
@[simp] theorem cells_slice (p:Option Addr) (n c:Nat):(Value.slice p n c).cells= #[.slice p n c]:=(rfl)
@[simp] theorem cells_map (p:Option Nat):(Value.map p).cells= #[.map p]:=(rfl)
def qe8 (v:Value):List Value:=v.cells.toList
def qc9 (l:List Value):Bool:=l.all cellv
@[simp] theorem cokL_nil:qc9 []=true:=(rfl)
@[simp] theorem cokL_cons (v:Value) (l:List Value):qc9 (v::l)=(cellv v&&qc9 l):=(rfl)
@[simp] theorem qcb (l m:List Value):qc9 (l++m)=(qc9 l&&qc9 m):=by simp [qc9]
theorem qpf {l:List Value} (h:qc9 l=true) (n:Nat):qc9 (l.take n)=true:=by
 simp only [qc9,List.all_eq_true] at h⊢;exact λv hv=>h v (List.mem_of_mem_take hv)
theorem qgf {l:List Value} (h:qc9 l=true) (n:Nat):qc9 (l.drop n)=true:=by
 simp only [qc9,List.all_eq_true] at h⊢;exact λv hv=>h v (List.mem_of_mem_drop hv)
def cok (v:Value):Bool:=qc9 (qe8 v)
@[simp] theorem cv_bool (b:Bool):cellv (.bool b)=true:=(rfl)
@[simp] theorem cv_int (k:IntKind) (n:Int):cellv (.int k n)=true:=(rfl)
@[simp] theorem cv_float (k:FloatKind) (n:Nat):cellv (.float k n)=true:=(rfl)
@[simp] theorem cv_complex (k:FloatKind) (n m:Nat):cellv (.complex k n m)=true:=(rfl)
@[simp] theorem cv_string (s:ByteArray):cellv (.string s)=true:=(rfl)
@[simp] theorem cv_pointer (p:Option Addr):cellv (.pointer p)=true:=(rfl)
@[simp] theorem cv_slice (p:Option Addr) (n c:Nat):cellv (.slice p n c)=true:=(rfl)
@[simp] theorem cv_map (p:Option Nat):cellv (.map p)=true:=(rfl)
@[simp] theorem cv_func (f:Fn) (as0 cs:Array Value):cellv (.func f as0 cs)=true:=(rfl)
@[simp] theorem cv_nilFunc:cellv .nilFunc=true:=(rfl)
@[simp] theorem cv_iface (t:TypeId) (v:Value):cellv (.iface t v)=true:=(rfl)
@[simp] theorem cv_nilIface:cellv .nilIface=true:=(rfl)
@[simp] theorem clist_agg (cs:Array Value):qe8 (.agg cs)=cs.toList:=(rfl)
@[simp] theorem clist_int (k:IntKind) (n:Int):qe8 (.int k n)= [.int k n]:=(rfl)
@[simp] theorem clist_bool (b:Bool):qe8 (.bool b)= [.bool b]:=(rfl)
@[simp] theorem clist_string (s:ByteArray):qe8 (.string s)= [.string s]:=(rfl)
@[simp] theorem clist_pointer (p:Option Addr):qe8 (.pointer p)= [.pointer p]:=(rfl)
@[simp] theorem clist_slice (p:Option Addr) (n c:Nat):qe8 (.slice p n c)= [.slice p n c]:=(rfl)
@[simp] theorem clist_map (p:Option Nat):qe8 (.map p)= [.map p]:=(rfl)
@[simp] theorem clist_func (f:Fn) (as0 cs:Array Value):qe8 (.func f as0 cs)= [.func f as0 cs]:=(rfl)
@[simp] theorem clist_nilFunc:qe8 .nilFunc= [.nilFunc]:=(rfl)
@[simp] theorem clist_iface (t:TypeId) (v:Value):qe8 (.iface t v)= [.iface t v]:=(rfl)
@[simp] theorem clist_nilIface:qe8 .nilIface= [.nilIface]:=(rfl)
@[simp] theorem cok_agg (cs:Array Value):cok (.agg cs)=qc9 cs.toList:=(rfl)
@[simp] theorem cok_int (k:IntKind) (n:Int):cok (.int k n)=true:=(rfl)
@[simp] theorem cok_bool (b:Bool):cok (.bool b)=true:=(rfl)
@[simp] theorem cok_string (s:ByteArray):cok (.string s)=true:=(rfl)
@[simp] theorem cok_pointer (p:Option Addr):cok (.pointer p)=true:=(rfl)
@[simp] theorem cok_slice (p:Option Addr) (n c:Nat):cok (.slice p n c)=true:=(rfl)
@[simp] theorem cok_map (p:Option Nat):cok (.map p)=true:=(rfl)
@[simp] theorem cok_func (f:Fn) (as0 cs:Array Value):cok (.func f as0 cs)=true:=(rfl)
@[simp] theorem cok_nilFunc:cok .nilFunc=true:=(rfl)
@[simp] theorem cok_iface (t:TypeId) (v:Value):cok (.iface t v)=true:=(rfl)
@[simp] theorem cok_nilIface:cok .nilIface=true:=(rfl)
attribute [simp] flat qae
@[simp] theorem alloc_n (σ:CSt) (o:CObj):(σ.alloc o).n=σ.n+1:=(rfl)
@[simp] theorem put_n (σ:CSt) (i:Nat) (o:CObj):(σ.put i o).n=σ.n:=(rfl)
@[simp] theorem alloc_get (σ:CSt) (o:CObj) (i:Nat):(σ.alloc o).get i=if i=σ.n then some o else σ.get i:=CSt.get_alloc ..
@[simp] theorem put_get (σ:CSt) (i j:Nat) (o:CObj):(σ.put i o).get j=if j=i then some o else σ.get j:=CSt.get_put ..
section
variable {E:Env}
@[congr] theorem wres_congr (E:Env) (x:Ctx) (a:CAct) (d:Option Tmp) (K:CAct→CSt→Prop) (Q:Out→CSt→Prop) (σ:CSt) {r r':OpR} (h:r=r'):qls E x a d K Q σ r=qls E x a d K Q σ r':=by rw [h]
@[congr] theorem wops_congr (E:Env) (x:Ctx) (ops:Array Oper) (Q:Out→CSt→Prop) (l:List Oper) {a a':CAct} {σ σ':CSt} (h:a=a') (h':σ=σ'):qo3 E x ops Q l a σ=qo3 E x ops Q l a' σ':=by rw [h,h']
@[congr] theorem code_congr (x:Ctx) (c:Code) {a a':CAct} (h:a=a'):Task.code x c a=Task.code x c a':=by rw [h]
@[congr] theorem W_congr (E:Env) {t t':Task} {σ σ':CSt} (Q:Out→CSt→Prop) (h:t=t') (h':σ=σ'):W E t σ Q=W E t' σ' Q:=by rw [h,h']
def qyu (v:Value) (p q:Prop):Prop:=match v with| .bool b=>if b=true then p else q|_=>False
@[congr] theorem condK_congr {v v':Value} (p q:Prop) (h:v=v'):qyu v p q=qyu v' p q:=by rw [h]
@[simp] theorem qg0 {x:Ctx} {c:Operand} {t e:Code} {a:CAct} {σ:CSt} {Q:Out→CSt→Prop}:W E (.code x (.cond c t e) a) σ Q=qyu (a.eval c) (W E (.code x t a) σ Q) (W E (.code x e a) σ Q):=by
 rw [qm5];simp only [F,qyu];cases a.eval c<;>try rfl
 rename_i b;cases b<;>rfl
@[simp] theorem condK_bool {b:Bool} {p q:Prop}:qyu (.bool b) p q=if b=true then p else q:=(rfl)
def retK (P:Program) (σ:CSt) (a:CAct) (fn:Option Func) (Q:Value→Prop):Prop:=
 match fn with|some fn=>(match qi9 P σ fn a with|some v=>Q v|none=>False)|none=>False
@[simp] theorem W_unwK {f:FuncId} {dk:Option (Option Value)} {tm:Tr Value} {sz:Nat} {tk:Bool} {σ:CSt} {Q:Out→CSt→Prop}:
  W E (.unw ⟨f,none,dk⟩ ⟨tm,sz, [],tk⟩ none) σ Q=retK E.P σ ⟨tm,sz, [],tk⟩ E.P.funcs[f]? λv=>Q (.ret v tk) σ:=by
 rw [qm5]
 rfl
def retV (P:Program) (σ:CSt) (a:CAct) (l:List ResultVar):Option Value:=
 match qc8 P σ a l with
 |some [v]=>some v
 |some l=>some (.tuple l.toArray)
 |none=>none
@[simp] theorem retK_some {P:Program} {σ:CSt} {a:CAct} {fn:Func} {Q:Value→Prop}:retK P σ a (some fn) Q=match retV P σ a fn.results.toList with|some v=>Q v|none=>False:=(rfl)
@[simp] theorem resultsL_nil {P:Program} {σ:CSt} {a:CAct}:qc8 P σ a []=some []:=(rfl)
@[simp] theorem resultsL_tmp {P:Program} {σ:CSt} {a:CAct} {t:Tmp} {l:List ResultVar}:qc8 P σ a (.tmp t::l)=(qc8 P σ a l).map λr=>a.get t::r:=(rfl)
@[simp] theorem resultsL_cell {P:Program} {σ:CSt} {a:CAct} {t:Tmp} {ty:TypeId} {l:List ResultVar}:qc8 P σ a (.cell t ty::l)=match loadAt P σ ty (a.get t) with|some v=>(qc8 P σ a l).map λr=>v::r|none=>none:=(rfl)
attribute [simp] retV
end
structure TF where
 size:Nat
 bytes:Nat
 zero:Option (List Value)
 agg:Bool
 und:Bool
def tf (P:Program) (t:TypeId):Option TF:=(P.info? t).map λinf=>⟨inf.size,inf.bytes,inf.zero.map (·.cells.toList),qd6 P t,(P.underlying t).isSome⟩
def qbo (P:Program) (t:TypeId):Option TypeId:=match P.underlying t with|some (.slice e)=>some e|_=>none
def qb0 (P:Program) (s:TypeId) (f:Nat):Option Nat:=
 match P.underlying s with
 |some (.struct fs)=>match fs[f]? with
  |some fl=>match P.info? fl.type with
   |some inf=>if inf.size=0 then none else some fl.offset
   |none=>none
  |none=>none
 |_=>none
def qeb (P:Program) (t:TypeId):Option (List (Nat×Nat)):=
 match P.underlying t with
 |some (.struct fs)=>qju P fs.toList
 |_=>none
section
variable {P:Program} {σ:CSt}
def qxi:Option TF→Option CObj→Nat→Option Value
 |some f,some (.cells c _ _),off=>if f.agg then(ld c off f.size).map (λl=> .agg l.toArray) else if f.und then c[off]? else none
 |_,_,_=>none
@[simp] theorem loadK_sc (s b:Nat) (z:Option (List Value)) (c:List Value) (e:TypeId) (ro:Bool) (off:Nat):qxi (some ⟨s,b,z,false,true⟩) (some (.cells c e ro)) off=c[off]? :=by simp [qxi]
@[simp] theorem loadK_ag (s b:Nat) (z:Option (List Value)) (c:List Value) (e:TypeId) (ro u:Bool) (off:Nat):qxi (some ⟨s,b,z,true,u⟩) (some (.cells c e ro)) off=(ld c off s).map λl=> .agg l.toArray:=by simp [qxi]
@[simp] theorem loadAt_eq (t:TypeId) (i off:Nat):loadAt P σ t (.pointer (some ⟨i,off,none⟩))=qxi (tf P t) (σ.get i) off:=by
 simp only [loadAt,CSt.cells,tf];generalize σ.get i=o;cases P.info? t with
 |none=>
  cases o with
  |none=>rfl
  |some o=>cases o<;>rfl
 |some inf=>
  cases o with
  |none=>rfl
  |some o=>
   cases o with
   |cells c e ro=>
    simp only [Option.map_some,qxi];cases P.underlying t<;>simp
   |_=>rfl
def quu:Option TF→Option CObj→Nat→Value→Option CObj
 |some f,some (.cells c e false),off,v=>if(qe8 v).length=f.size∧cok v=true then(st c off (qe8 v)).map (λc'=> .cells c' e false) else none
 |_,_,_,_=>none
@[simp] theorem storeK_eq (s b:Nat) (z:Option (List Value)) (g u:Bool) (c:List Value) (e:TypeId) (off:Nat) (v:Value):
  quu (some ⟨s,b,z,g,u⟩) (some (.cells c e false)) off v=if(qe8 v).length=s∧cok v=true then(st c off (qe8 v)).map (λc'=> .cells c' e false) else none:=(rfl)
@[simp] theorem storeAt_eq (t:TypeId) (i off:Nat) (v:Value):storeAt P σ t (.pointer (some ⟨i,off,none⟩)) v=(quu (tf P t) (σ.get i) off v).map (σ.put i ·):=by
 simp only [storeAt,CSt.cells,tf];generalize σ.get i=o;cases o with
 |none=>cases P.info? t<;>rfl
 |some o=>
  cases o with
  |cells c e ro=>
   cases P.info? t with
   |none=>rfl
   |some inf=>
    cases ro with
    |true=>simp [quu]
    |false=>
     simp only [Option.map_some,quu,true_and];by_cases hc:(qe8 v).length=inf.size∧cok v=true
     ·have hc':v.cells.size=inf.size∧v.cells.toList.all cellv=true:=hc;rw [if_pos hc,if_pos hc',Option.map_map]
      rfl
     ·have hc':¬(v.cells.size=inf.size∧v.cells.toList.all cellv=true):=hc;rw [if_neg hc,if_neg hc']
      rfl
  |_=>cases P.info? t<;>rfl
@[simp] theorem qwt (c:List Value) (off n:Nat):ld c off n=if off+n≤c.length then some ((c.drop off).take n) else none:=(rfl)
@[simp] theorem qi0 (c:List Value) (off:Nat) (vs:List Value):st c off vs=if off+vs.length≤c.length then some (c.take off++vs++c.drop (off+vs.length)) else none:=(rfl)
@[simp] theorem fieldAt_eq (s:TypeId) (i off f:Nat):fieldAt P s (.pointer (some ⟨i,off,none⟩)) f=(qb0 P s f).map λo=> .pointer (some ⟨i,off+o,none⟩):=by
 unfold fieldAt qb0;cases P.underlying s with
 |none=>rfl
 |some d=>
  cases d with
  |struct fs=>
   simp only;cases fs[f]? with
   |none=>rfl
   |some fl=>
    simp only;cases P.info? fl.type with
    |none=>rfl
    |some inf=>
     simp only;split<;>rfl
  |_=>rfl
def idxK:Option TF→Nat→Nat→Nat→Int→Option Value
 |some f,i,off,len,n=>if 0≤n∧n<len then some (.pointer (some ⟨i,off+n.toNat*f.size,none⟩)) else none
 |none,_,_,_,_=>none
@[simp] theorem idxK_eq (s b:Nat) (z:Option (List Value)) (g u:Bool) (i off len:Nat) (n:Int):idxK (some ⟨s,b,z,g,u⟩) i off len n=if 0≤n∧n<len then some (.pointer (some ⟨i,off+n.toNat*s,none⟩)) else none:=(rfl)
theorem qy6 {t e:TypeId} (h:qbo P t=some e) (i off len cap:Nat) (k:IntKind) (n:Int):indexAt P t (.slice (some ⟨i,off,none⟩) len cap) (.int k n)=idxK (tf P e) i off len n:=by
 unfold qbo at h;split at h
 ·rename_i e' hu;cases h;unfold indexAt;simp only [hu,tf];cases P.info? e<;>rfl
 ·cases h
variable {ev:Operand→Value} {dst:Option Tmp} {ty:TypeId} {pos:String} {after:Array Edge} {g:Option (Nat×Bool)}
@[simp] theorem ofV_some (v:Value):OpR.ofV σ (some v)= .val v σ:=(rfl)
@[simp] theorem ofV_none:OpR.ofV σ none= .fail:=(rfl)
@[simp] theorem ofS_some (σ':CSt):OpR.ofS (some σ')= .val undef σ':=(rfl)
@[simp] theorem ofP_some (v:Value) (σ':CSt):OpR.ofP (some (v,σ'))= .val v σ':=(rfl)
@[simp] theorem or_val' (v:Value) (σ':CSt) (r:OpR):(OpR.val v σ').or r= .val v σ':=(rfl)
@[simp] theorem or_fail (r:OpR):OpR.fail.or r=r:=(rfl)
@[simp] theorem copE_move (x:Operand):cop P σ ev ⟨dst, .move x,ty,pos,after,g⟩= .val (ev x) σ:=(rfl)
@[simp] theorem copE_assign (x:Operand):cop P σ ev ⟨dst, .assign x,ty,pos,after,g⟩= .val (ev x) σ:=(rfl)
@[simp] theorem copE_box (e:TypeId) (x:Operand):cop P σ ev ⟨dst, .box e x,ty,pos,after,g⟩=if cok (ev x)=true then .val (.pointer (some ⟨σ.n,0,none⟩)) (σ.alloc (.cells (qe8 (ev x)) e false)) else .fail:=(rfl)
@[simp] theorem copE_load (t:TypeId) (a:Operand):cop P σ ev ⟨dst, .load t a,ty,pos,after,g⟩=OpR.ofV σ (loadAt P σ t (ev a)):=(rfl)
@[simp] theorem copE_store (t:TypeId) (a x:Operand):cop P σ ev ⟨dst, .store t a x,ty,pos,after,g⟩=OpR.ofS (storeAt P σ t (ev a) (ev x)):=(rfl)
@[simp] theorem copE_fieldAddr (s:TypeId) (x:Operand) (f:Nat):cop P σ ev ⟨dst, .fieldAddr s x f,ty,pos,after,g⟩=OpR.ofV σ (fieldAt P s (ev x) f):=(rfl)
@[simp] theorem copE_indexAddr (t:TypeId) (x ix:Operand):cop P σ ev ⟨dst, .indexAddr t x ix,ty,pos,after,g⟩=OpR.ofV σ (indexAt P t (ev x) (ev ix)):=(rfl)
def qd5 (P:Program) (σ:CSt) (op:BinOp) (t:TypeId) (x y:Operand) (a b:Value):OpR:=
 if flat a&&flat b then
  match qaq P (do eqGuard op t x y a b;binOp op t a b) with
  |some v=>if flat v then .val v σ else .fail
  |none=> .fail
 else .fail
theorem qii {s:Sem Value}:qaq P (do pure (Next.value (←s)))=(qaq P s).map Next.value:=by
 induction s with
 |pure a=>rfl
 |program k ih=>exact ih P
 |_=>rfl
@[simp] theorem copE_bin (op:BinOp) (t u:TypeId) (x y:Operand):cop P σ ev ⟨dst, .binOp op t x y u,ty,pos,after,g⟩=match qb6 P op t (ev x) (ev y) with|some v=> .val v σ|none=>qd5 P σ op t x y (ev x) (ev y):=by
 simp only [cop]
 congr 1
 funext
 simp only [qbc,qd5,Op.operands,execOp];simp only [List.all_cons,List.all_nil,Bool.and_true];rw [qii];cases qaq P (do eqGuard op t x y (ev x) (ev y);binOp op t (ev x) (ev y))<;>rfl
theorem qh2 {t:TypeId} {x y:Value} (h:match x with| .int _ _| .string _| .bool _| .agg _| .float _ _=>True|_=>False):qg2 P t x y=false:=by
 unfold qg2;cases x<;>simp only at h<;>(split<;>simp_all)
@[simp] theorem isNil_int (op:BinOp) (t:TypeId) (k:IntKind) (a:Int) (y:Value):qb6 P op t (.int k a) y=none:=by simp [qb6,qh2]
@[simp] theorem isNil_string (op:BinOp) (t:TypeId) (a:ByteArray) (y:Value):qb6 P op t (.string a) y=none:=by simp [qb6,qh2]
@[simp] theorem isNil_bool (op:BinOp) (t:TypeId) (a:Bool) (y:Value):qb6 P op t (.bool a) y=none:=by simp [qb6,qh2]
@[simp] theorem isNil_agg (op:BinOp) (t:TypeId) (a:Array Value) (y:Value):qb6 P op t (.agg a) y=none:=by simp [qb6,qh2]
@[simp] theorem pureRun_pure {α:Type} (a:α):qaq P (pure a)=some a:=(rfl)
variable {t:TypeId} {x y:Operand} {k:IntKind} {a b:Int} {s u:ByteArray}
@[simp] theorem bin_add:qd5 P σ .add t x y (.int k a) (.int k b)= .val (.int k (k.wrap (a+b))) σ:=by simp [qd5,eqGuard,binOp,Op.intArith]
@[simp] theorem bin_sub:qd5 P σ .sub t x y (.int k a) (.int k b)= .val (.int k (k.wrap (a-b))) σ:=by simp [qd5,eqGuard,binOp,Op.intArith]
@[simp] theorem bin_mul:qd5 P σ .mul t x y (.int k a) (.int k b)= .val (.int k (k.wrap (a*b))) σ:=by simp [qd5,eqGuard,binOp,Op.intArith]
@[simp] theorem bin_quo (h:b≠0):qd5 P σ .quo t x y (.int k a) (.int k b)= .val (.int k (k.wrap (a.tdiv b))) σ:=by simp [qd5,eqGuard,binOp,Op.intDiv,h]
@[simp] theorem bin_rem (h:b≠0):qd5 P σ .rem t x y (.int k a) (.int k b)= .val (.int k (a.tmod b)) σ:=by simp [qd5,eqGuard,binOp,Op.intDiv,h]
@[simp] theorem bin_eql:qd5 P σ .eql t x y (.int k a) (.int k b)= .val (.bool (decide (a=b))) σ:=by simp [qd5,eqGuard,binOp,Op.intCmp];rfl
@[simp] theorem bin_neq:qd5 P σ .neq t x y (.int k a) (.int k b)= .val (.bool (!decide (a=b))) σ:=by simp [qd5,eqGuard,binOp,Op.intCmp];rfl
@[simp] theorem bin_lss:qd5 P σ .lss t x y (.int k a) (.int k b)= .val (.bool (decide (a<b))) σ:=by simp [qd5,eqGuard,binOp,Op.intCmp]
@[simp] theorem bin_leq:qd5 P σ .leq t x y (.int k a) (.int k b)= .val (.bool (decide (a≤b))) σ:=by simp [qd5,eqGuard,binOp,Op.intCmp]
@[simp] theorem bin_gtr:qd5 P σ .gtr t x y (.int k a) (.int k b)= .val (.bool (decide (b<a))) σ:=by simp [qd5,eqGuard,binOp,Op.intCmp]
@[simp] theorem bin_geq:qd5 P σ .geq t x y (.int k a) (.int k b)= .val (.bool (decide (b≤a))) σ:=by simp [qd5,eqGuard,binOp,Op.intCmp]
end
section
variable {E:Env}
def qp5 (E:Env) (ops:Array Oper) (a0 a:CAct) (d:Option Tmp) (K:CAct→CSt→Prop) (Q:Out→CSt→Prop) (σ:CSt):OpR→Prop
 | .val v σ'=>K (a.put d v) σ'
 | .call fv args=>
  match qcr E fv args σ with
  |some _=>False
  |none=>qf6 qg7 (W E) fv args none σ λout σ'=>
   match out with
   | .ret v _=>K (a.put d v) σ'
   | .pan v=>Q (.code (.panic v) (qh6 ops a0)) σ'
   |_=>False
 |_=>False
@[congr] theorem dres_congr (E:Env) (ops:Array Oper) (a0 a:CAct) (d:Option Tmp) (K:CAct→CSt→Prop) (Q:Out→CSt→Prop) (σ:CSt) {r r':OpR} (h:r=r'):qp5 E ops a0 a d K Q σ r=qp5 E ops a0 a d K Q σ r':=by rw [h]
@[simp] theorem dres_val {ops:Array Oper} {a0 a:CAct} {d:Option Tmp} {K:CAct→CSt→Prop} {Q:Out→CSt→Prop} {σ σ':CSt} {v:Value}:qp5 E ops a0 a d K Q σ (.val v σ')=K (a.put d v) σ':=(rfl)
def qt9 (E:Env) (ops:Array Oper) (Q:Out→CSt→Prop) (a0:CAct):List Oper→CAct→CSt→Prop
 | [],a,σ=>Q (.code .normal a) σ
 |o::rest,a,σ=>
  match qaz ops a o with
  |some true=>qp5 E ops a0 a o.dst (qt9 E ops Q a0 rest) Q σ (cop E.P σ a.eval o)
  |some false=>qt9 E ops Q a0 rest (a.put o.dst nope) σ
  |none=>False
@[congr] theorem dops_congr (E:Env) (ops:Array Oper) (Q:Out→CSt→Prop) (a0:CAct) (l:List Oper) {a a':CAct} {σ σ':CSt} (h:a=a') (h':σ=σ'):qt9 E ops Q a0 l a σ=qt9 E ops Q a0 l a' σ':=by rw [h,h']
@[simp] theorem dops_nil {ops:Array Oper} {a0 a:CAct} {σ:CSt} {Q:Out→CSt→Prop}:qt9 E ops Q a0 [] a σ=Q (.code .normal a) σ:=(rfl)
theorem qa6 {ops:Array Oper} {a0 a:CAct} {σ:CSt} {Q:Out→CSt→Prop} {o:Oper} {rest:List Oper} (hg:o.guard=none):
  qt9 E ops Q a0 (o::rest) a σ=qp5 E ops a0 a o.dst (qt9 E ops Q a0 rest) Q σ (cop E.P σ a.eval o):=by
 rw [qt9];simp only [qaz,hg]
def qvf (P:Program) (ops:Array Oper) (b:Array Nat):List Nat→List Nat→Bool
 | [],_=>true
 |i::rest,dn=>(!qab P (qal ops i)||dn.all (λr=>qa3 b i r|| !qa9 (qal ops r)||qab P (qal ops r)))&&qvf P ops b rest (i::dn)
def calmId (P:Program) (ops:Array Oper):Bool:=
 qmw P ops==List.range ops.size&&qk6 P ops (List.range ops.size)&&qvf P ops (bef ops) (List.range ops.size) []
theorem call_eff {P:Program} {σ:CSt} {ev:Operand→Value} {o:Oper} {fv:Value} {args:Array Value} (h:cop P σ ev o= .call fv args):qab P o=true:=by
 have:=qhy P σ ev o;rw [h] at this;obtain⟨c,f,hop,hf,_,_⟩:=this;simp [qab,hop,hf]
theorem qkx {ops:Array Oper} {b:Array Nat} {Q:Out→CSt→Prop} {a0:CAct}:∀(l dn:List Nat) (a:CAct) (σ:CSt) (rs:List Rec),qvf E.P ops b l dn=true→(∀r∈rs,r.i∈dn∧qab E.P (qal ops r.i)=false)→
  qt9 E ops Q a0 (l.map (qal ops)) a σ→dgo qg7 E (W E) ops b a0 Q l a σ rs
 | [],dn,a,σ,rs,hc,hr,h=>h
 |i::rest,dn,a,σ,rs,hc,hr,h=>by
  simp only [qvf,Bool.and_eq_true] at hc;obtain⟨hc1,hc2⟩:=hc;have hr':∀r∈rs,r.i∈i::dn∧qab E.P (qal ops r.i)=false:=λr h=>⟨by simp [(hr r h).1],(hr r h).2⟩
  unfold dgo;simp only [List.map_cons,qt9] at h⊢;cases hw:qaz ops a (qal ops i) with
  |none=>rw [hw] at h;exact h.elim
  |some wb=>
   rw [hw] at h;cases wb with
   |false=>exact qkx rest (i::dn) _ _ rs hc2 hr' h
   |true=>
    simp only at h⊢;by_cases he:qab E.P (qal ops i)=true
    ·rw [if_pos he];have hre:∀σ',qgk E.P ops b σ' i rs=true:=by
      intro σ';simp only [qgk,List.all_eq_true];intro r hrm;obtain⟨h1,h2⟩:=hr r hrm;simp only [he,Bool.not_true,Bool.false_or,List.all_eq_true] at hc1;have:=hc1 _ h1;rw [h2,Bool.or_false] at this;rw [this,Bool.true_or]
     cases hcp:cop E.P σ a.eval (qal ops i) with
     |val v σ'=>
      rw [hcp] at h;simp only [hre,if_true];exact qkx rest (i::dn) _ _ rs hc2 hr' h
     |call fv args=>
      rw [hcp] at h;simp only [qp5] at h⊢;cases hx:qcr E fv args σ with
      |some v=>rw [hx] at h;exact h.elim
      |none=>
       rw [hx] at h;simp only at h⊢;refine qeh (tr:=id) (N:=qg7) (λh=>h) (λt σ Q Q' hq h=>W.mono t σ Q Q' hq h) (λout σ' hq=> ?_) h
       cases out with
       |ret v tk=>
        simp only [hre,if_true];exact qkx rest (i::dn) _ _ rs hc2 hr' hq
       |pan v=>exact hq
       |code e a=>exact hq
     |_=>rw [hcp] at h;exact h.elim
    ·rw [if_neg he];have he':qab E.P (qal ops i)=false:=by simpa using he
     cases hcp:cop E.P σ a.eval (qal ops i) with
     |val v σ'=>
      rw [hcp] at h;have:=ql0 he' hcp;subst this;refine qkx rest (i::dn) _ _ _ hc2 (λr hrm=> ?_) h
      rcases List.mem_cons.1 hrm with rfl|hrm
      ·exact⟨by simp,he'⟩
      ·exact hr' r hrm
     |call fv args=>exact absurd (call_eff hcp) he
     |_=>rw [hcp] at h;exact h.elim
theorem qba {x:Ctx} {id:Nat} {ops:Array Oper} {a:CAct} {σ:CSt} {Q:Out→CSt→Prop} (hk:calmId E.P ops=true) (h:qt9 E ops Q a ops.toList a σ):W E (.code x (.region id ops true) a) σ Q:=by
 simp only [calmId,Bool.and_eq_true,beq_iff_eq] at hk;obtain⟨⟨h1,h2⟩,h3⟩:=hk;rw [qm5];simp only [F,h1,h2,if_true];refine qkx _ [] _ _ _ h3 (by simp) ?_
 have:(List.range ops.size).map (qal ops)=ops.toList:=by
  apply List.ext_getElem
  ·simp
  ·intro i h1 h2;simp at h1;simp [qal,h1]
 rw [this];exact h
def isVal (v:Value):OpR→Prop
 | .val u _=>u=v
 |_=>False
@[simp] theorem isVal_val (v u:Value) (σ:CSt):isVal v (.val u σ)=(u=v):=(rfl)
def qb9 (P:Program) (ops:Array Oper) (b:Array Nat) (σ:CSt) (e:Nat):List Rec→Prop
 | []=>True
 |r::rs=>((qa3 b e r.i|| !qa9 (qal ops r.i))=true∨isVal r.v (cop P σ r.a.eval (qal ops r.i)))∧qb9 P ops b σ e rs
mutual
theorem qlh:∀v:Value,qfm v v=true
 | .bool a=>by simp [qfm]
 | .int k a=>by simp [qfm]
 | .float k a=>by simp [qfm]
 | .complex k a c=>by simp [qfm]
 | .string ⟨⟨a⟩⟩=>by simp [qfm]
 | .pointer a=>by simp [qfm]
 | .slice a n c=>by simp [qfm]
 | .map a=>by simp [qfm]
 | .chan a=>by simp [qfm]
 | .func f ⟨x⟩ ⟨y⟩=>by simp [qfm,qfj x,qfj y]
 | .nilFunc=>by simp [qfm]
 | .iface t v=>by simp [qfm,qlh v]
 | .nilIface=>by simp [qfm]
 | .agg ⟨x⟩=>by simp [qfm,qfj x]
 | .tuple ⟨x⟩=>by simp [qfm,qfj x]
theorem qfj:∀l:List Value,qkd l l=true
 | []=>by simp [qkd]
 |x::l=>by simp [qkd,qlh x,qfj l]
end
theorem qfr {ops:Array Oper} {b:Array Nat} {σ:CSt} {e:Nat}:∀{rs:List Rec},qb9 E.P ops b σ e rs→qgk E.P ops b σ e rs=true
 | [],h=>rfl
 |r::rs,h=>by
  obtain⟨h1,h2⟩:=h;have ih:=qfr h2;simp only [qgk,List.all_cons,Bool.and_eq_true] at ih⊢;refine⟨?_,ih⟩;rcases h1 with h1|h1
  ·rw [h1,Bool.true_or]
  ·unfold isVal at h1;split at h1
   ·rename_i u s hu;rw [hu,h1];simp [qlh]
   ·exact h1.elim
def rres (K:Value→Prop):OpR→Prop
 | .val v _=>K v
 |_=>False
@[congr] theorem rres_congr (K:Value→Prop) {r r':OpR} (h:r=r'):rres K r=rres K r':=by rw [h]
@[simp] theorem rres_val (K:Value→Prop) (v:Value) (σ:CSt):rres K (.val v σ)=K v:=(rfl)
def qif (E:Env) (ops:Array Oper) (b:Array Nat) (Q:Out→CSt→Prop) (a0:CAct):List (Nat×Oper)→CAct→CSt→List Rec→Prop
 | [],a,σ,_=>Q (.code .normal a) σ
 |(i,o)::rest,a,σ,rs=>
  match qaz ops a o with
  |some true=>
   if qab E.P o=true then qp5 E ops a0 a o.dst (λa' σ'=>qb9 E.P ops b σ' i rs∧qif E ops b Q a0 rest a' σ' rs) Q σ (cop E.P σ a.eval o)
   else rres (λv=>qif E ops b Q a0 rest (a.put o.dst v) σ (⟨i,a,v⟩::rs)) (cop E.P σ a.eval o)
  |some false=>qif E ops b Q a0 rest (a.put o.dst nope) σ rs
  |none=>False
@[simp] theorem dopsR_nil {ops:Array Oper} {b:Array Nat} {a0 a:CAct} {σ:CSt} {Q:Out→CSt→Prop} {rs:List Rec}:qif E ops b Q a0 [] a σ rs=Q (.code .normal a) σ:=(rfl)
theorem qa7 {ops:Array Oper} {b:Array Nat} {a0 a:CAct} {σ:CSt} {Q:Out→CSt→Prop} {rs:List Rec} {i:Nat} {o:Oper} {rest:List (Nat×Oper)} (hg:o.guard=none):
  qif E ops b Q a0 ((i,o)::rest) a σ rs=if qab E.P o=true then qp5 E ops a0 a o.dst (λa' σ'=>qb9 E.P ops b σ' i rs∧qif E ops b Q a0 rest a' σ' rs) Q σ (cop E.P σ a.eval o)
   else rres (λv=>qif E ops b Q a0 rest (a.put o.dst v) σ (⟨i,a,v⟩::rs)) (cop E.P σ a.eval o):=by
 rw [qif];simp only [qaz,hg]
theorem qh8 {ops:Array Oper} {b:Array Nat} {Q:Out→CSt→Prop} {a0:CAct}:∀(l:List Nat) (a:CAct) (σ:CSt) (rs:List Rec),qif E ops b Q a0 (l.map λi=>(i,qal ops i)) a σ rs→dgo qg7 E (W E) ops b a0 Q l a σ rs
 | [],a,σ,rs,h=>h
 |i::rest,a,σ,rs,h=>by
  unfold dgo;simp only [List.map_cons,qif] at h⊢;cases hw:qaz ops a (qal ops i) with
  |none=>rw [hw] at h;exact h.elim
  |some wb=>
   rw [hw] at h;cases wb with
   |false=>exact qh8 rest _ _ rs h
   |true=>
    simp only at h⊢;by_cases he:qab E.P (qal ops i)=true
    ·rw [if_pos he] at h⊢;cases hcp:cop E.P σ a.eval (qal ops i) with
     |val v σ'=>
      rw [hcp] at h;obtain⟨h1,h2⟩:=h;simp only [qfr h1,if_true];exact qh8 rest _ _ rs h2
     |call fv args=>
      rw [hcp] at h;simp only [qp5] at h⊢;cases hx:qcr E fv args σ with
      |some v=>rw [hx] at h;exact h.elim
      |none=>
       rw [hx] at h;simp only at h⊢;refine qeh (tr:=id) (N:=qg7) (λh=>h) (λt σ Q Q' hq h=>W.mono t σ Q Q' hq h) (λout σ' hq=> ?_) h
       cases out with
       |ret v tk=>
        obtain⟨h1,h2⟩:=hq;simp only [qfr h1,if_true];exact qh8 rest _ _ rs h2
       |pan v=>exact hq
       |code e a=>exact hq
     |_=>rw [hcp] at h;exact h.elim
    ·rw [if_neg he] at h⊢;cases hcp:cop E.P σ a.eval (qal ops i) with
     |val v σ'=>rw [hcp] at h;exact qh8 rest _ _ _ h
     |_=>rw [hcp] at h;exact h.elim
theorem qcv {l:List Nat} {b:Array Nat} {x:Ctx} {id:Nat} {ops:Array Oper} {a:CAct} {σ:CSt} {Q:Out→CSt→Prop} (hp:qmw E.P ops=l) (hb:bef ops=b) (hk:qk6 E.P ops l=true)
  (h:qif E ops b Q a (l.map λi=>(i,qal ops i)) a σ []):W E (.code x (.region id ops true) a) σ Q:=by
 rw [qm5];simp only [F,hp,hb,hk,if_true];exact qh8 _ _ _ _ h
theorem qo2 {ls:List (List Nat)} {b:Array Nat} {x:Ctx} {id:Nat} {ops:Array Oper} {a:CAct} {σ:CSt} {Q:Out→CSt→Prop} (hp:qe6 E.P ops=ls) (hb:bef ops=b) (hn:qk6 E.P ops (qmw E.P ops)=false) (hk:qjv E.P ops=true)
  (h:∀l∈ls,qif E ops b Q a (l.map λi=>(i,qal ops i)) a σ []):W E (.code x (.region id ops true) a) σ Q:=by
 rw [qm5];have h0:0<ls.length:=by
  simp only [qjv,Bool.and_eq_true,decide_eq_true_eq] at hk;rw [←hp];exact hk.2.1
 simp only [F,hn,hk,hp,hb,if_true,Bool.false_eq_true,if_false];have key:∀j,j<ls.length→dgo qg7 E (W E) ops b a Q (ls.getD j []) a σ []:=λj hj=>by
  rw [List.getD_eq_getElem?_getD,List.getElem?_eq_getElem hj];exact qh8 _ _ _ _ (h _ (List.getElem_mem hj))
 unfold qmc;split
 ·exact key 0 h0
 ·exact λi hi=>key i hi
end
def qm8 (place:Nat→Option (Nat×Nat)):List Value→List (Nat×Value)→Option (List Value)
 |cells, []=>some cells
 |cells,(i,v)::rest=>
  match place i with
  |none=>none
  |some (off,size)=>if(qe8 v).length=size∧off+size≤cells.length then qm8 place (cells.take off++qe8 v++cells.drop (off+size)) rest else none
theorem quq:∀(l:List Value) (k off:Nat) (cs:Array Value),off+k+l.length≤cs.size→
  ((l.zipIdx k).foldl (λcs p=>cs.setIfInBounds (off+p.2) p.1) cs).toList=cs.toList.take (off+k)++l++cs.toList.drop (off+k+l.length)
 | [],k,off,cs,h=>by simp
 |v::l,k,off,cs,h=>by
  simp only [List.length_cons] at h;rw [List.zipIdx_cons,List.foldl_cons,quq l (k+1) off _ (by simp;omega)]
  simp only [Array.toList_setIfInBounds,List.length_cons];apply List.ext_getElem?;intro j;simp only [List.getElem?_append,List.getElem?_take,List.getElem?_drop,List.length_append,List.length_take,List.length_set,Array.length_toList,List.getElem?_set,List.length_cons,List.getElem?_cons];have a1:min (off+(k+1)) cs.size=off+k+1:=by omega
  have a2:min (off+k) cs.size=off+k:=by omega
  rw [a1,a2];by_cases h1:j<off+k
  ·rw [if_pos (by omega),if_pos (by omega),if_pos (by omega),if_neg (by omega),if_pos (by omega),if_pos h1,if_pos h1]
  ·by_cases h2:j=off+k
   ·subst h2;rw [if_pos (by omega),if_pos (by omega),if_pos (by omega),if_pos rfl,if_pos (by omega),if_pos (by omega),if_neg (by omega),if_pos (by omega)]
   ·by_cases h3:j<off+k+1+l.length
    ·rw [if_pos (by omega),if_neg (by omega),if_pos (by omega),if_neg (by omega),if_neg (by omega)]
     congr 1<;>omega
    ·rw [if_neg (by omega),if_neg (by omega),if_neg (by omega)]
     congr 1<;>omega
theorem qs1 (place:Nat→Option (Nat×Nat)):∀(parts:List (Nat×Value)) (cells:Array Value),(Instr.fill place cells parts).map Array.toList=qm8 place cells.toList parts
 | [],cells=>rfl
 |(i,v)::rest,cells=>by
  unfold Instr.fill qm8;cases place i with
  |none=>rfl
  |some p=>
   obtain⟨off,size⟩:=p;simp only;by_cases hc:v.cells.size=size∧off+size≤cells.size
   ·obtain⟨rfl,h2⟩:=hc;have:(decide (v.cells.size≠v.cells.size)||decide (off+v.cells.size>cells.size))=false:=by simp;omega
    rw [this];simp only [Bool.false_eq_true,if_false];rw [qs1 place rest];rw [if_pos (show(qe8 v).length=v.cells.size∧off+v.cells.size≤cells.toList.length from⟨rfl,by simpa using h2⟩)]
    congr 1
    have:=quq v.cells.toList 0 off cells (by simpa using h2)
    simp only [Nat.add_zero,Array.length_toList] at this;rw [show qe8 v=v.cells.toList from rfl,←this,←Array.foldl_toList]
    congr 1
    simp [Array.toList_zipIdx]
   ·have:(decide (v.cells.size≠size)||decide (off+v.cells.size>cells.size))=true:=by
     simp only [Bool.or_eq_true,decide_eq_true_eq];by_cases h1:v.cells.size=size
     ·right;subst h1;have:=λh=>hc ⟨rfl,h⟩;omega
     ·exact .inl h1
    rw [this];simp only [if_true,Option.map_none];rw [if_neg (show¬((qe8 v).length=size∧off+size≤cells.toList.length) from hc)]
section
variable {P:Program} {σ:CSt} {ev:Operand→Value} {dst:Option Tmp} {ty:TypeId} {pos:String} {after:Array Edge} {g:Option (Nat×Bool)}
def quw:Option TF→TypeId→CSt→OpR
 |some ⟨_,_,some z,_,_⟩,e,σ=>if z.all qae then .val (.pointer (some ⟨σ.n,0,none⟩)) (σ.alloc (.cells z e false)) else .fail
 |_,_,_=> .fail
@[simp] theorem allocK_some (s b:Nat) (z:List Value) (a u:Bool) (e:TypeId):quw (some ⟨s,b,some z,a,u⟩) e σ=if z.all qae then .val (.pointer (some ⟨σ.n,0,none⟩)) (σ.alloc (.cells z e false)) else .fail:=(rfl)
@[simp] theorem copE_alloc (e:TypeId):cop P σ ev ⟨dst, .alloc e,ty,pos,after,g⟩=quw (tf P e) e σ:=by
 simp only [cop,qoj,tf];cases P.info? e with
 |none=>rfl
 |some inf=>
  cases hz:inf.zero with
  |none=>simp [quw,OpR.ofP,hz]
  |some z=>
   simp only [Option.map_some,quw,hz];split<;>rfl
def qn4 (pl:Option (List (Nat×Nat))) (f:Option TF) (parts:List (Nat×Value)):Option Value:=
 match pl,f with
 |some pl,some ⟨_,_,some z,_,_⟩=>if parts.all (λp=>cok p.2)∧z.all qae then(qm8 (pl.toArray[·]?) z parts).map λl=> .agg l.toArray else none
 |_,_=>none
@[simp] theorem buildK_some (pl:List (Nat×Nat)) (s b:Nat) (z:List Value) (a u:Bool) (parts:List (Nat×Value)):
  qn4 (some pl) (some ⟨s,b,some z,a,u⟩) parts=if parts.all (λp=>cok p.2)∧z.all qae then(qm8 (pl.toArray[·]?) z parts).map λl=> .agg l.toArray else none:=(rfl)
theorem qxd {t:TypeId} {pl:List (Nat×Nat)} (h:qeb P t=some pl) (parts:Array (Nat×Value)):qli P t parts=qn4 (qeb P t) (tf P t) parts.toList:=by
 have hp:=h;unfold qeb at h;split at h
 ·rename_i fs hu;simp only [qli,hp,tf];cases P.info? t with
  |none=>simp [qn4]
  |some inf=>
   cases hz:inf.zero with
   |none=>simp [qn4,hz]
   |some z=>
    simp only [Option.map_some,qn4,hu,h,hz];by_cases h1:(parts.toList.all λp=>p.2.cells.toList.all cellv)=true
    ·by_cases h2:z.cells.toList.all qae=true
     ·rw [if_pos h1,if_pos h2,if_pos ⟨h1,h2⟩,←qs1];simp [Option.map_map,Function.comp_def]
     ·rw [if_pos h1,if_neg h2,if_neg (λh=>h2 h.2)]
    ·rw [if_neg h1,if_neg (λh=>h1 h.1)]
 ·cases h
@[simp] theorem copE_build (t:TypeId) (parts:Array (Nat×Operand)) (h:(qeb P t).isSome=true):cop P σ ev ⟨dst, .build t parts,ty,pos,after,g⟩=OpR.ofV σ (qn4 (qeb P t) (tf P t) (parts.map λp=>(p.1,ev p.2)).toList):=by
 obtain⟨pl,hpl⟩:=Option.isSome_iff_exists.1 h;simp only [cop];rw [qxd hpl]
@[simp] theorem fillL_nil (place:Nat→Option (Nat×Nat)) (cells:List Value):qm8 place cells []=some cells:=(rfl)
@[simp] theorem fillL_cons (place:Nat→Option (Nat×Nat)) (cells:List Value) (i:Nat) (v:Value) (rest:List (Nat×Value)):qm8 place cells ((i,v)::rest)=
  match place i with
  |none=>none
  |some (off,size)=>if(qe8 v).length=size∧off+size≤cells.length then qm8 place (cells.take off++qe8 v++cells.drop (off+size)) rest else none:=(rfl)
def za4 (e:Option TypeId) (f:Option TF) (σ:CSt) (len:Nat) (parts:List (Nat×Value)):OpR:=
 match e,f with
 |some e,some ⟨s,_,some z,_,_⟩=>
  if len≤2^24∧len*s≤2^24∧0<len*s∧z.length=s∧parts.all (λp=>cok p.2)∧z.all qae then
   match qm8 (λi=>some (i*s,s)) ((List.replicate len z).flatten) parts with
   |some cs=> .val (.slice (some ⟨σ.n,0,none⟩) len len) (σ.alloc (.cells cs e false))
   |none=> .fail
  else .fail
 |_,_=> .fail
theorem qg6 (z:Array Value):∀n,(((Array.range (n*z.size)).map (z[· %z.size]!)).toList:List Value)=(List.replicate n z.toList).flatten
 |0=>by simp
 |n+1=>by
  have ih:=qg6 z n;simp only [Array.toList_map,Array.toList_range] at ih⊢;rw [Nat.add_mul,Nat.one_mul,Nat.add_comm,List.range_add,List.map_append,List.replicate_succ,List.flatten_cons,←ih,List.map_map]
  congr 1
  ·apply List.ext_getElem
   ·simp
   ·intro i h1 h2;simp at h1;simp [Nat.mod_eq_of_lt h1,h1]
  ·apply List.map_congr_left;intro j hj;simp
def bsOk (e:Option TypeId) (f:Option TF) (len:Nat):Bool:=
 match e,f with
 |some _,some ⟨s,_,some z,_,_⟩=>decide (0<len*s)&&decide (z.length=s)
 |_,_=>false
@[simp] theorem zb4 (e:TypeId) (s b:Nat) (z:List Value) (a u:Bool) (len:Nat):bsOk (some e) (some ⟨s,b,some z,a,u⟩) len=(decide (0<len*s)&&decide (z.length=s)):=(rfl)
@[simp] theorem qq3 (e:TypeId) (s b:Nat) (z:List Value) (a u:Bool) (len:Nat) (parts:List (Nat×Value)):za4 (some e) (some ⟨s,b,some z,a,u⟩) σ len parts=
  if len≤2^24∧len*s≤2^24∧0<len*s∧z.length=s∧parts.all (λp=>cok p.2)∧z.all qae then
   match qm8 (λi=>some (i*s,s)) ((List.replicate len z).flatten) parts with
   |some cs=> .val (.slice (some ⟨σ.n,0,none⟩) len len) (σ.alloc (.cells cs e false))
   |none=> .fail
  else .fail:=(rfl)
@[simp] theorem qzr (t:TypeId) (len:Nat) (parts:Array (Nat×Operand)) (h:bsOk (qbo P t) ((qbo P t).bind (tf P)) len=true):
  cop P σ ev ⟨dst, .buildSlice t len parts,ty,pos,after,g⟩=za4 (qbo P t) ((qbo P t).bind (tf P)) σ len (parts.map λp=>(p.1,ev p.2)).toList:=by
 simp only [cop];generalize parts.map (λp=>(p.1,ev p.2))=pa
 have he:∃e,P.underlying t=some (.slice e)∧qbo P t=some e:=by
  unfold qbo at h⊢;split at h
  ·rename_i e hu;exact⟨e,hu,by simp [hu]⟩
  ·simp [bsOk] at h
 obtain⟨e,hu,hel⟩:=he;rw [hel] at h⊢;simp only [Option.bind_some,tf] at h⊢;simp only [qe3,qdv,hu];cases hi:P.info? e with
 |none=>rw [hi] at h;simp [bsOk] at h
 |some inf=>
  rw [hi] at h;cases hz:inf.zero with
  |none=>simp [bsOk,hz] at h
  |some z=>
   simp only [Option.map_some,hz,zb4,Bool.and_eq_true,decide_eq_true_eq,Array.length_toList] at h;obtain⟨h1,h2⟩:=h;have h1':¬(len*inf.size=0):=by omega
   simp only [Option.map_some,hz,qq3,h1,h2,Array.length_toList,true_and,h1',if_false];by_cases c1:len≤2^24∧len*inf.size≤2^24∧(pa.toList.all λp=>p.2.cells.toList.all cellv)=true
   ·by_cases c2:z.cells.toList.all qae=true
    ·have hr:=qg6 z.cells len;rw [h2] at hr;rw [if_pos c1];simp only [c2,if_true,h2,and_true];rw [if_pos (show len≤2^24∧len*inf.size≤2^24∧(pa.toList.all λp=>cok p.2)=true from c1),←hr,←qs1]
     cases Instr.fill (λi=>some (i*inf.size,inf.size)) (Array.map (λx=>z.cells[x %inf.size]!) (Array.range (len*inf.size))) pa.toList<;>rfl
    ·rw [if_pos c1];simp [c2,OpR.ofP]
   ·rw [if_neg c1,if_neg (λh=>c1 ⟨h.1,h.2.1,h.2.2.1⟩)]
    rfl
end
section
variable {P:Program} {σ:CSt} {ev:Operand→Value} {dst:Option Tmp} {ty:TypeId} {pos:String} {after:Array Edge} {g:Option (Nat×Bool)}
theorem qac {α β:Type} (s:Sem α) (k:α→Sem β):qaq P (s>>=k)=(qaq P s).bind λa=>qaq P (k a):=by
 induction s with
 |pure a=>rfl
 |program k' ih=>exact ih P
 |_=>rfl
def intT (P:Program) (t:TypeId):Option IntKind:=match P.underlying t with|some (.int k)=>some k|_=>none
def convF (P:Program) (σ:CSt) (s d:TypeId) (v:Value):OpR:=
 (qd9 P σ s d v).or (if flat v then match qaq P (convert s d v) with|some u=>if flat u then .val u σ else .fail|none=> .fail else .fail)
@[simp] theorem copE_convert (s d:TypeId) (x:Operand):cop P σ ev ⟨dst, .convert s d x,ty,pos,after,g⟩=convF P σ s d (ev x):=by
 simp only [cop,convF]
 congr 1
 simp only [qbc,Op.operands,execOp,List.all_cons,List.all_nil,Bool.and_true];rw [qii];cases qaq P (convert s d (ev x))<;>rfl
def intK:Option IntKind→Int→CSt→OpR
 |some k,n,σ=> .val (.int k (k.wrap n)) σ
 |none,_,_=> .fail
@[simp] theorem intK_some (k:IntKind) (n:Int):intK (some k) n σ= .val (.int k (k.wrap n)) σ:=(rfl)
theorem qbl (t:TypeId):qaq P (underlying t)=P.underlying t:=by
 unfold underlying;rw [qac];have:qaq P program=some P:=(rfl);rw [this,Option.bind_some];cases P.underlying t<;>rfl
theorem zaq {s d:TypeId} (hs:(P.underlying s).isSome=true) (hd:(intT P d).isSome=true) (k:IntKind) (n:Int):convF P σ s d (.int k n)=intK (intT P d) n σ:=by
 obtain⟨us,hs⟩:=Option.isSome_iff_exists.1 hs;unfold intT at hd⊢;cases hu:P.underlying d with
 |none=>rw [hu] at hd;cases hd
 |some u=>
  cases u with
  |int k'=>
   have h1:qd9 P σ s d (.int k n)= .fail:=by
    unfold qd9;rw [hs,hu];cases us<;>rfl
   simp only [convF,h1,or_fail,flat,qae,if_true,convert,qac,qbl,hs,hu,Option.bind_some,intK]
   rfl
  |_=>rw [hu] at hd;cases hd
@[simp] theorem bound_none (d:Nat):qai d none=some d:=(rfl)
@[simp] theorem bound_int (d:Nat) (k:IntKind) (n:Int):qai d (some (.int k n))=if 0≤n then some n.toNat else none:=(rfl)
@[simp] theorem copE_slice (t:TypeId) (x:Operand) (lo hi mx:Option Operand):cop P σ ev ⟨dst, .slice t x lo hi mx,ty,pos,after,g⟩=(OpR.ofV σ (qd7 P σ t (ev x) (lo.map ev) (hi.map ev) (mx.map ev))).or (qbc P σ ev ⟨dst, .slice t x lo hi mx,ty,pos,after,g⟩):=(rfl)
@[simp] theorem copE_call (c:Call):cop P σ ev ⟨dst, .call c,ty,pos,after,g⟩=qbs P σ ev ⟨dst, .call c,ty,pos,after,g⟩ c:=(rfl)
@[simp] theorem callOp_value (o:Oper) (f:Operand) (args:Array Operand) (ts:Array TypeId):qbs P σ ev o ⟨.value f,args,ts⟩= .call (ev f) (args.map ev):=(rfl)
def kret (a:CAct) (d:Option Tmp) (K:CAct→CSt→Prop) (Q:Out→CSt→Prop):Out→CSt→Prop:=λout σ=>
 match out with
 | .ret v _=>K (a.put d v) σ
 | .pan v=>Q (.code (.panic v) a) σ
 |_=>False
@[simp] theorem kret_ret (a:CAct) (d:Option Tmp) (K:CAct→CSt→Prop) (Q:Out→CSt→Prop) (v:Value) (tk:Bool):kret a d K Q (.ret v tk) σ=K (a.put d v) σ:=(rfl)
@[simp] theorem kret_pan (a:CAct) (d:Option Tmp) (K:CAct→CSt→Prop) (Q:Out→CSt→Prop) (v:Value):kret a d K Q (.pan v) σ=Q (.code (.panic v) a) σ:=(rfl)
@[congr] theorem kret_congr (a:CAct) (d:Option Tmp) (K:CAct→CSt→Prop) (Q:Out→CSt→Prop) {o o':Out} {σ σ':CSt} (h:o=o') (h':σ=σ'):kret a d K Q o σ=kret a d K Q o' σ':=by rw [h,h']
variable {E:Env}
@[simp] theorem wres_call (x:Ctx) (a:CAct) (d:Option Tmp) (K:CAct→CSt→Prop) (Q:Out→CSt→Prop) (f:FuncId) (fs cs args:Array Value) (h:qcr E (.func (.func f) fs cs) args σ=none):
  qls E x a d K Q σ (.call (.func (.func f) fs cs) args)=W E (.fn f (fs++args++cs) none) σ (kret a d K Q):=by
 simp only [qls,h,qf6]
 rfl
def kretd (ops:Array Oper) (a0 a:CAct) (d:Option Tmp) (K:CAct→CSt→Prop) (Q:Out→CSt→Prop):Out→CSt→Prop:=λout σ=>
 match out with
 | .ret v _=>K (a.put d v) σ
 | .pan v=>Q (.code (.panic v) (qh6 ops a0)) σ
 |_=>False
@[simp] theorem kretd_ret (ops:Array Oper) (a0 a:CAct) (d:Option Tmp) (K:CAct→CSt→Prop) (Q:Out→CSt→Prop) (v:Value) (tk:Bool):kretd ops a0 a d K Q (.ret v tk) σ=K (a.put d v) σ:=(rfl)
@[simp] theorem kretd_pan (ops:Array Oper) (a0 a:CAct) (d:Option Tmp) (K:CAct→CSt→Prop) (Q:Out→CSt→Prop) (v:Value):kretd ops a0 a d K Q (.pan v) σ=Q (.code (.panic v) (qh6 ops a0)) σ:=(rfl)
@[simp] theorem dres_call (ops:Array Oper) (a0 a:CAct) (d:Option Tmp) (K:CAct→CSt→Prop) (Q:Out→CSt→Prop) (f:FuncId) (fs cs args:Array Value) (h:qcr E (.func (.func f) fs cs) args σ=none):
  qp5 E ops a0 a d K Q σ (.call (.func (.func f) fs cs) args)=W E (.fn f (fs++args++cs) none) σ (kretd ops a0 a d K Q):=by
 simp only [qp5,h,qf6]
 rfl
def lenF (P:Program) (σ:CSt) (t:Option TypeId) (v:Value):OpR:=
 match t with|some t=>OpR.ofV σ (qqx P σ #[t] v)|none=> .fail
@[simp] theorem callOp_len (o:Oper) (x:Operand) (ts:Array TypeId):qbs P σ ev o ⟨.builtin .len, #[x],ts⟩=lenF P σ ts[0]? (ev x):=by
 have:(Array.map ev #[x]).toList= [ev x]:=by simp
 simp only [qbs,this,lenF,qqx];cases h:ts[0]? with
 |none=>rfl
 |some t=>
  simp only;have:(#[t]:Array TypeId)[0]? =some t:=(rfl);rw [this]
theorem zaw {t:TypeId} (h:(qbo P t).isSome=true) (p:Option Addr) (n c:Nat):lenF P σ (some t) (.slice p n c)= .val (.int .i64 n) σ:=by
 unfold qbo at h;split at h
 ·rename_i e hu;simp [lenF,qqx,hu]
 ·cases h
def strT (P:Program) (t:TypeId):Bool:=match P.underlying t with|some .string=>true|_=>false
theorem qwr {t:TypeId} (h:strT P t=true) (s:ByteArray):lenF P σ (some t) (.string s)= .val (.int .i64 s.size) σ:=by
 unfold strT at h;split at h
 ·rename_i hu;simp [lenF,qqx,hu]
 ·cases h
attribute [simp] zaw qwr zaq qy6
end
section
variable {P:Program} {σ:CSt} {ev:Operand→Value} {dst:Option Tmp} {ty:TypeId} {pos:String} {after:Array Edge} {g:Option (Nat×Bool)}
def qc6 (P:Program) (t:TypeId):Option (TypeId×TF):=(qbo P t).bind λe=>(tf P e).map λf=>(e,f)
def qdn:Option (TypeId×TF)→Option CObj→Nat→Nat→Nat→Option Nat→Option Nat→Option Value
 |some (e,f),some (.cells c e' _),i,off,len,some l,some h=>if e'=e∧0<f.size∧l≤h∧(h≤len∨off+h*f.size≤c.length) then some (.slice (some ⟨i,off+l*f.size,none⟩) (h-l) qa1) else none
 |_,_,_,_,_,_,_=>none
theorem qca {t:TypeId} {e:TypeId} {f:TF} (h:qc6 P t=some (e,f)):∃inf,qdv P t=some (e,inf)∧inf.size=f.size∧inf.bytes=f.bytes∧inf.zero.map (·.cells.toList)=f.zero:=by
 unfold qc6 qbo at h;cases hu:P.underlying t with
 |none=>rw [hu] at h;cases h
 |some d=>
  cases d with
  |slice e0=>
   rw [hu] at h;simp only [Option.bind_some,tf] at h;cases hi:P.info? e0 with
   |none=>rw [hi] at h;cases h
   |some inf=>
    rw [hi] at h;simp only [Option.map_some,Option.some.injEq,Prod.mk.injEq] at h;obtain⟨rfl,rfl⟩:=h;exact⟨inf,by simp [qdv,hu,hi],rfl,rfl,rfl⟩
  |_=>rw [hu] at h;cases h
theorem qb5 {t:TypeId} (he:(qc6 P t).isSome=true) (i off len:Nat) (lo hi:Option Value):
  qd7 P σ t (.slice (some ⟨i,off,none⟩) len qa1) lo hi none=qdn (qc6 P t) (σ.get i) i off len (qai 0 lo) (qai len hi):=by
 obtain⟨⟨e,f⟩,hf⟩:=Option.isSome_iff_exists.1 he;obtain⟨inf,h1,h2,h3,h4⟩:=qca hf;rw [hf];simp only [qd7,h1,if_true,CSt.cells];generalize σ.get i=o;cases o with
 |none=>rfl
 |some o=>
  cases o with
  |cells c e' ro=>
   simp only [qdn,h2];by_cases hc:e'=e∧0<f.size
   ·rw [if_pos hc];cases qai 0 lo with
    |none=>cases qai len hi<;>rfl
    |some l=>
     cases qai len hi with
     |none=>rfl
     |some h=>simp only [qdn,hc,true_and]
   ·rw [if_neg hc];cases qai 0 lo with
    |none=>cases qai len hi<;>rfl
    |some l=>
     cases qai len hi with
     |none=>rfl
     |some h=>simp only [qdn];rw [if_neg (λhh=>hc ⟨hh.1,hh.2.1⟩)]
  |_=>rfl
def qau (σ:CSt) (e:TypeId) (f:TF) (s:Value) (n:Nat) (new:List Value):Option (Value×CSt):=
 if new.length=n*f.size∧qc9 new∧0<f.size∧0<f.bytes∧f.zero.map List.length=some f.size then
 match s with
 | .slice none 0 0=>
  if n=0 then some (s,σ)
  else if n*f.bytes≤2^47 then some (.slice (some ⟨σ.n,0,none⟩) n qa1,σ.alloc (.cells new e false)) else none
 | .slice (some ⟨i,off,none⟩) len cap=>
  if n=0 then(if len≤cap then some (s,σ) else none) else
  match σ.get i with
  |some (.cells c e' ro)=>
   if cap=qa1 then
    if e'=e∧ro=false then
     if off+(len+n)*f.size≤c.length then
      (st c (off+len*f.size) new).map λc'=>(.slice (some ⟨i,off,none⟩) (len+n) qa1,σ.put i (.cells c' e' ro))
     else if(len+n)*f.bytes≤2^47 then
      (ld c off (len*f.size)).map λold=>(.slice (some ⟨σ.n,0,none⟩) (len+n) qa1,(σ.put i .dead).alloc (.cells (old++new) e false))
     else none
    else none
   else if len+n≤cap then
    if ro=false then(st c (off+len*f.size) new).map λc'=>(.slice (some ⟨i,off,none⟩) (len+n) cap,σ.put i (.cells c' e' ro)) else none
   else if(len+n)*f.bytes≤2^47 then
    (ld c off (len*f.size)).map λold=>(.slice (some ⟨σ.n,0,none⟩) (len+n) qa1,σ.alloc (.cells (old++new) e false))
   else none
  |_=>none
 |_=>none
 else none
theorem qnc {e:TypeId} {inf:TypeInfo} {f:TF} (h2:inf.size=f.size) (h3:inf.bytes=f.bytes) (h4:inf.zero.map (·.cells.toList)=f.zero) (s:Value) (n:Nat) (new:List Value):
  qeu P σ e inf s n new=qau σ e f s n new:=by
 have hz:((inf.zero.map λz=>z.cells.size)=some inf.size)↔(f.zero.map List.length=some f.size):=by
  rw [←h4,←h2,Option.map_map]
  rfl
 unfold qeu qau;simp only [h2,h3] at hz⊢;by_cases hc:new.length=n*f.size∧qc9 new∧0<f.size∧0<f.bytes∧f.zero.map List.length=some f.size
 ·rw [if_pos hc,if_pos ⟨hc.1,hc.2.1,hc.2.2.1,hc.2.2.2.1,hz.2 hc.2.2.2.2⟩];split
  ·rfl
  ·rename_i i off len cap;simp only [CSt.cells];by_cases hn:n=0
   ·rw [if_pos hn,if_pos hn]
   ·rw [if_neg hn,if_neg hn];generalize σ.get i=o;cases o with
    |none=>rfl
    |some o=>cases o<;>rfl
  ·rename_i h1 h2';split
   ·exact absurd rfl h1
   ·exact absurd rfl (h2' _ _ _ _)
   ·rfl
 ·rw [if_neg hc,if_neg (λh=>hc ⟨h.1,h.2.1,h.2.2.1,h.2.2.2.1,hz.1 h.2.2.2.2⟩)]
def firstK:Option CObj→Nat→Nat→Option (List Value)
 |some (.cells c _ _),off,n=>ld c off n
 |_,_,_=>none
@[simp] theorem qsb (c:List Value) (e:TypeId) (ro:Bool) (off n:Nat):firstK (some (.cells c e ro)) off n=ld c off n:=(rfl)
@[simp] theorem qxf (size n i off a b:Nat):qcz σ size n (.slice (some ⟨i,off,none⟩) a b)=firstK (σ.get i) off (n*size):=by
 simp only [qcz,CSt.cells];generalize σ.get i=o;cases o with
 |none=>rfl
 |some o=>cases o<;>rfl
@[simp] theorem firstOf_nil (size n:Nat):qcz σ size n (.slice none 0 0)=some []:=(rfl)
@[simp] theorem lenOf_slice (p:Option Addr) (n c:Nat):qea (.slice p n c)=some n:=(rfl)
@[simp] theorem lenOf_string (s:ByteArray):qea (.string s)=some s.size:=(rfl)
def qhk:Option (TypeId×TF)→CSt→Value→Value→Option (Value×CSt)
 |some (e,f),σ,s,x=>match qea x with|some n=>(qcz σ f.size n x).bind λnew=>qau σ e f s n new|none=>none
 |none,_,_,_=>none
theorem qat {ts:Array TypeId} {s x:Value} (h:(ts[0]?.bind (qc6 P)).isSome=true) (h':(ts[1]?.bind (qbo P)).isSome=true):qas P σ ts s x=qhk (ts[0]?.bind (qc6 P)) σ s x:=by
 obtain⟨⟨e,f⟩,hf⟩:=Option.isSome_iff_exists.1 h;obtain⟨e1,hf1⟩:=Option.isSome_iff_exists.1 h';rw [hf];simp only [Option.bind_eq_some_iff] at hf hf1;obtain⟨t,ht,hf⟩:=hf;obtain⟨u,hu,hf1⟩:=hf1;obtain⟨inf,g1,g2,g3,g4⟩:=qca hf;have hund:P.underlying u=some (.slice e1):=by
  unfold qbo at hf1;split at hf1
  ·rename_i e2 h2;cases hf1;exact h2
  ·cases hf1
 simp only [qas,ht,hu,g1,hund,qhk];cases qea x with
 |none=>rfl
 |some n=>
  simp only [g2]
  congr 1
  funext new
  exact qnc g2 g3 g4 s n new
@[simp] theorem callOp_append (o:Oper) (s x:Operand) (ts:Array TypeId):qbs P σ ev o ⟨.builtin .append, #[s,x],ts⟩=OpR.ofP (qas P σ ts (ev s) (ev x)):=by
 have:(Array.map ev #[s,x]).toList= [ev s,ev x]:=by simp
 simp only [qbs,this]
@[simp] theorem callOp_copy (o:Oper) (s x:Operand) (ts:Array TypeId):qbs P σ ev o ⟨.builtin .copy, #[s,x],ts⟩=OpR.ofP (qmz P σ ts (ev s) (ev x)):=by
 have:(Array.map ev #[s,x]).toList= [ev s,ev x]:=by simp
 simp only [qbs,this]
end
structure Grow (σ σ':CSt):Prop where
 n:σ.n≤σ'.n
 old:∀i,i<σ.n→σ'.get i=σ.get i
theorem Grow.refl (σ:CSt):Grow σ σ:=⟨Nat.le_refl _,λ_ _=>rfl⟩
theorem Grow.trans {a b c:CSt} (h:Grow a b) (k:Grow b c):Grow a c:=⟨Nat.le_trans h.n k.n,λi hi=>(k.old i (Nat.lt_of_lt_of_le hi h.n)).trans (h.old i hi)⟩
theorem Grow.alloc {a b:CSt} (h:Grow a b) (o:CObj):Grow a (b.alloc o):=⟨by have:=h.n;simp;omega,λi hi=>by
 have:=h.n;rw [CSt.get_alloc,if_neg (by omega)]
 exact h.old i hi⟩
theorem Grow.put {a b:CSt} (h:Grow a b) {i:Nat} (hi:a.n≤i) (o:CObj):Grow a (b.put i o):=⟨h.n,λj hj=>by
 rw [CSt.get_put,if_neg (by omega)]
 exact h.old j hj⟩
theorem Grow.get {a b:CSt} (h:Grow a b) {i:Nat} {o:CObj} (hi:a.get i=some o) (hl:i<a.n):b.get i=some o:=(h.old i hl).trans hi
section
variable {E:Env}
def kinv (I:Nat→CAct→CSt→Prop) (n:Nat) (Q:Out→CSt→Prop):Out→CSt→Prop:=λo σ=>
 match o with
 | .code .normal a=>∃m,m<n∧I m a σ
 |o=>Q o σ
@[simp] theorem kinv_normal (I:Nat→CAct→CSt→Prop) (n:Nat) (Q:Out→CSt→Prop) (a:CAct) (σ:CSt):kinv I n Q (.code .normal a) σ=∃m,m<n∧I m a σ:=(rfl)
@[simp] theorem kinv_exit (I:Nat→CAct→CSt→Prop) (n:Nat) (Q:Out→CSt→Prop) (a:CAct) (σ:CSt) (i:Nat):kinv I n Q (.code (.exit i) a) σ=Q (.code (.exit i) a) σ:=(rfl)
@[simp] theorem kinv_goto (I:Nat→CAct→CSt→Prop) (n:Nat) (Q:Out→CSt→Prop) (a:CAct) (σ:CSt) (i:Nat):kinv I n Q (.code (.goto i) a) σ=Q (.code (.goto i) a) σ:=(rfl)
@[simp] theorem kinv_ret (I:Nat→CAct→CSt→Prop) (n:Nat) (Q:Out→CSt→Prop) (a:CAct) (σ:CSt):kinv I n Q (.code .ret a) σ=Q (.code .ret a) σ:=(rfl)
@[simp] theorem kinv_panic (I:Nat→CAct→CSt→Prop) (n:Nat) (Q:Out→CSt→Prop) (a:CAct) (σ:CSt) (v:Value):kinv I n Q (.code (.panic v) a) σ=Q (.code (.panic v) a) σ:=(rfl)
theorem qaj {x:Ctx} {c:Code} {Q:Out→CSt→Prop} (I:Nat→CAct→CSt→Prop) (hstep:∀n a σ,I n a σ→W E (.code x c a) σ (kinv I n Q)):∀n a σ,I n a σ→W E (.code x (.loop c) a) σ Q:=by
 intro n
 induction n using Nat.strongRecOn with
 |_ n ih=>
  intro a σ h;rw [qeq];refine(hstep n a σ h).weaken λo s ho=> ?_
  cases o with
  |code e a'=>cases e with
   |normal=>
    obtain⟨m,hm,hI⟩:=ho;exact ih m hm a' s hI
   |_=>exact ho
  |_=>exact ho
end
section
variable {P:Program} {σ:CSt} {ev:Operand→Value} {dst:Option Tmp} {ty:TypeId} {pos:String} {after:Array Edge} {g:Option (Nat×Bool)}
variable {t:TypeId} {x y:Operand} {k k':IntKind} {a b:Int} {s u:ByteArray}
@[simp] theorem bin_shr (h:0≤b):qd5 P σ .shr t x y (.int k a) (.int k' b)= .val (.int k (a.fdiv (2^min b.toNat k.bits))) σ:=by
 have:¬(b<0):=by omega
 simp [qd5,eqGuard,binOp,Op.shift,this]
@[simp] theorem bin_streq:qd5 P σ .eql t x y (.string s) (.string u)= .val (.bool (s.toList==u.toList)) σ:=by simp [qd5,eqGuard,binOp,Op.stringOp]
@[simp] theorem bin_strne:qd5 P σ .neq t x y (.string s) (.string u)= .val (.bool (!(s.toList==u.toList))) σ:=by simp [qd5,eqGuard,binOp,Op.stringOp]
def unF (P:Program) (σ:CSt) (op:UnOp) (v:Value):OpR:=if flat v then match qaq P (Op.unary op v) with|some u=>if flat u then .val u σ else .fail|none=> .fail else .fail
@[simp] theorem copE_un (op:UnOp) (t:TypeId) (x:Operand):cop P σ ev ⟨dst, .unOp op t x,ty,pos,after,g⟩=unF P σ op (ev x):=by
 simp only [cop,unF,qbc,Op.operands,execOp,List.all_cons,List.all_nil,Bool.and_true];rw [qii];cases qaq P (Op.unary op (ev x))<;>rfl
@[simp] theorem un_not (c:Bool):unF P σ .not (.bool c)= .val (.bool (!c)) σ:=by simp [unF,Op.unary]
def pickK (v a b:Value) (σ:CSt):OpR:=match v with| .bool t=> .val (if t then a else b) σ|_=> .fail
@[simp] theorem copE_pick (c u v:Operand):cop P σ ev ⟨dst, .pick c u v,ty,pos,after,g⟩=pickK (ev c) (ev u) (ev v) σ:=(rfl)
@[simp] theorem pickK_bool (c:Bool) (u v:Value):pickK (.bool c) u v σ= .val (if c then u else v) σ:=(rfl)
def exK (v:Value) (i:Nat) (σ:CSt):OpR:=match v with| .tuple vs=>OpR.ofV σ vs[i]? |_=> .fail
@[simp] theorem copE_extract (u:Operand) (i:Nat):cop P σ ev ⟨dst, .extract u i,ty,pos,after,g⟩=exK (ev u) i σ:=(rfl)
@[simp] theorem exK_tuple (vs:Array Value) (i:Nat):exK (.tuple vs) i σ=OpR.ofV σ vs[i]? :=(rfl)
theorem qfw {t:TypeId} (h:(qbo P t).isSome=true):∃e,P.underlying t=some (.slice e):=by
 unfold qbo at h;split at h
 ·rename_i e hu;exact⟨e,hu⟩
 ·cases h
@[simp] theorem isNil_sl_eq {t:TypeId} (h:(qbo P t).isSome=true) (p:Addr) (n c:Nat):qb6 P .eql t (.slice (some p) n c) (.slice none 0 0)=some (.bool false):=by
 obtain⟨e,hu⟩:=qfw h;simp [qb6,qg2,hu]
@[simp] theorem isNil_nil {t:TypeId} {op:BinOp} (h:(qbo P t).isSome=true):qb6 P op t (.slice none 0 0) (.slice none 0 0)=none:=by
 obtain⟨e,hu⟩:=qfw h;simp [qb6,qg2,hu]
theorem qyw {t:TypeId} (h:(qbo P t).isSome=true):qaq P (Op.equal t (.slice none 0 0) (.slice none 0 0))=some true:=by
 obtain⟨e,hu⟩:=qfw h;unfold Op.equal Op.equalIn;simp only [Op.maxDepth,qac,qbl,hu,Option.bind_some]
 rfl
@[simp] theorem bin_nil_eq {t:TypeId} (h:(qbo P t).isSome=true) {x y:Operand}:qd5 P σ .eql t x y (.slice none 0 0) (.slice none 0 0)= .val (.bool true) σ:=by
 have:qaq P (do eqGuard .eql t x y (.slice none 0 0) (.slice none 0 0);binOp .eql t (.slice none 0 0) (.slice none 0 0))=some (.bool true):=by
  have h1:binOp .eql t (.slice none 0 0) (.slice none 0 0)=(do pure (.bool (←Op.equal t (.slice none 0 0) (.slice none 0 0))):Sem Value):=rfl
  have h2:qaq P (eqGuard .eql t x y (.slice none 0 0) (.slice none 0 0))=some ():=rfl;rw [qac,h2,Option.bind_some,h1,qac,qyw h,Option.bind_some]
  rfl
 simp only [qd5,flat,qae,Bool.and_self,if_true,this]
def qgh (v:Value) (want:Bool) (p q:Prop):Prop:=match v with| .bool b=>if b=want then p else q| .chan none=>q|_=>False
@[congr] theorem guardK_congr {v v':Value} (want:Bool) (p q:Prop) (h:v=v'):qgh v want p q=qgh v' want p q:=by rw [h]
@[simp] theorem guardK_bool (b want:Bool) (p q:Prop):qgh (.bool b) want p q=if b=want then p else q:=(rfl)
@[simp] theorem guardK_nope (want:Bool) (p q:Prop):qgh nope want p q=q:=(rfl)
variable {E:Env}
theorem wops_if {ops:Array Oper} {Q:Out→CSt→Prop} {x:Ctx} {a:CAct} {dst:Option Tmp} {op:Op} {ty:TypeId} {pos:String} {after:Array Edge} {j:Nat} {want:Bool} {rest:List Oper} (d:Tmp) (hd:(ops[j]?).bind (·.dst)=some d) (hs:d<a.sz):
  qo3 E x ops Q (⟨dst,op,ty,pos,after,some (j,want)⟩::rest) a σ=
   qgh (a.get d) want (qls E x a dst (qo3 E x ops Q rest) Q σ (cop E.P σ a.eval ⟨dst,op,ty,pos,after,some (j,want)⟩)) (qo3 E x ops Q rest (a.put dst nope) σ):=by
 rw [qo3];simp only [qaz,hd,hs,if_true];unfold qgh;generalize a.get d=v;cases v with
 |bool b=>cases b<;>cases want<;>rfl
 |chan c=>cases c<;>rfl
 |_=>rfl
def qa4 (ops:Array Oper) (j:Nat):Tmp:=((ops[j]?).bind (·.dst)).getD 0
theorem qa2 {ops:Array Oper} {Q:Out→CSt→Prop} {x:Ctx} {a:CAct} {dst:Option Tmp} {op:Op} {ty:TypeId} {pos:String} {after:Array Edge} {j:Nat} {want:Bool} {rest:List Oper} (hd:((ops[j]?).bind (·.dst)).isSome=true) (hs:qa4 ops j<a.sz):
  qo3 E x ops Q (⟨dst,op,ty,pos,after,some (j,want)⟩::rest) a σ=
   qgh (a.get (qa4 ops j)) want (qls E x a dst (qo3 E x ops Q rest) Q σ (cop E.P σ a.eval ⟨dst,op,ty,pos,after,some (j,want)⟩)) (qo3 E x ops Q rest (a.put dst nope) σ):=by
 obtain⟨d,hd⟩:=Option.isSome_iff_exists.1 hd;have:qa4 ops j=d:=by simp [qa4,hd]
 rw [this] at hs⊢;exact wops_if d hd hs
end
section
variable {α:Type} (enc:α→List Value) {n:Nat} (hn:∀x,(enc x).length=n)
include hn
theorem qa5 (l:List α):(l.flatMap enc).length=l.length*n:=by
 induction l with
 |nil=>simp
 |cons x l ih=>rw [List.flatMap_cons,List.length_append,hn,ih,List.length_cons,Nat.add_mul,Nat.one_mul,Nat.add_comm]
theorem qks (l:List α) (i:Nat):(l.flatMap enc).drop (i*n)=(l.drop i).flatMap enc:=by
 induction l generalizing i with
 |nil=>simp
 |cons x l ih=>
  cases i with
  |zero=>simp
  |succ i=>
   rw [List.flatMap_cons,Nat.add_mul,Nat.one_mul,Nat.add_comm,←List.drop_drop,List.drop_left' (hn x),ih,List.drop_succ_cons]
theorem qkj (l:List α) (i:Nat):(l.flatMap enc).take (i*n)=(l.take i).flatMap enc:=by
 induction l generalizing i with
 |nil=>simp
 |cons x l ih=>
  cases i with
  |zero=>simp
  |succ i=>
   rw [List.flatMap_cons,Nat.add_mul,Nat.one_mul,Nat.add_comm (i*n),List.take_append,hn,Nat.add_sub_cancel_left,ih,List.take_succ_cons,List.flatMap_cons,List.take_of_length_le (by rw [hn];omega)]
theorem enc_get (l:List α) (i:Nat) (h:i<l.length):((l.flatMap enc).drop (i*n)).take n=enc l[i]:=by
 rw [qks enc hn,List.drop_eq_getElem_cons h,List.flatMap_cons];exact List.take_left' (hn _)
theorem qoz (l:List α) (i:Nat) (x:α) (h:i<l.length):(l.flatMap enc).take (i*n)++enc x++(l.flatMap enc).drop (i*n+n)=(l.set i x).flatMap enc:=by
 have h1:i*n+n=(i+1)*n:=by rw [Nat.add_mul,Nat.one_mul]
 rw [h1,qkj enc hn,qks enc hn,List.set_eq_take_append_cons_drop,if_pos h,List.flatMap_append,List.flatMap_cons,List.append_assoc]
end
section
variable {P:Program} {σ:CSt}
def qtl:Option (TypeId×TF)→Option CObj→Nat→Nat→Nat→Option Nat→Option Nat→Option Nat→Option Value
 |some (e,f),some (.cells c e' _),i,off,len,some l,some h,some m=>
  if e'=e∧0<f.size∧l≤h∧h≤m∧(m≤len∨off+m*f.size≤c.length)∧m<qa1 then some (.slice (some ⟨i,if m=l then off else off+l*f.size,none⟩) (h-l) (m-l)) else none
 |_,_,_,_,_,_,_,_=>none
theorem qiu {t:TypeId} (he:(qc6 P t).isSome=true) (i off len:Nat) (lo:Option Value) (hi mx:Value):
  qd7 P σ t (.slice (some ⟨i,off,none⟩) len qa1) lo (some hi) (some mx)=qtl (qc6 P t) (σ.get i) i off len (qai 0 lo) (qai len (some hi)) (qai 0 (some mx)):=by
 obtain⟨⟨e,f⟩,hf⟩:=Option.isSome_iff_exists.1 he;obtain⟨inf,h1,h2,h3,h4⟩:=qca hf;rw [hf];simp only [qd7,h1,if_true,CSt.cells];generalize σ.get i=o;generalize qai len (some hi)=bh;cases o with
 |none=>rfl
 |some o=>
  cases o with
  |cells c e' ro=>
   simp only [h2];by_cases hc:e'=e∧0<f.size
   ·rw [if_pos hc];cases qai 0 lo with
    |none=>cases bh<;>cases hbm:qai 0 (some mx)<;>rfl
    |some l=>
     cases bh with
     |none=>cases hbm:qai 0 (some mx)<;>rfl
     |some h=>
      cases hbm:qai 0 (some mx) with
      |none=>simp only [hbm];rfl
      |some m=>simp only [hbm,qtl,hc,true_and,Option.isSome_some]
   ·rw [if_neg hc];cases qai 0 lo with
    |none=>cases bh<;>cases hbm:qai 0 (some mx)<;>rfl
    |some l=>
     cases bh with
     |none=>cases hbm:qai 0 (some mx)<;>rfl
     |some h=>
      cases hbm:qai 0 (some mx) with
      |none=>rfl
      |some m=>simp only [qtl];rw [if_neg (λhh=>hc ⟨hh.1,hh.2.1⟩)]
  |_=>rfl
def qcu:Option (TypeId×TF)→Nat→Nat→Bool→Option Nat→Option Nat→Option Nat→Option Value
 |some (_,f),i,off,ok,some l,some h,some m=>if l≤h∧h≤m∧ok=true∧m<qa1 then some (.slice (some ⟨i,if m=l then off else off+l*f.size,none⟩) (h-l) (m-l)) else none
 |_,_,_,_,_,_,_=>none
theorem qch {t:TypeId} (he:(qc6 P t).isSome=true) (i off len cap:Nat) (hc:cap≠qa1) (lo hi:Option Value):
  qd7 P σ t (.slice (some ⟨i,off,none⟩) len cap) lo hi none=qcu (qc6 P t) i off true (qai 0 lo) (qai len hi) (some cap):=by
 obtain⟨⟨e,f⟩,hf⟩:=Option.isSome_iff_exists.1 he;obtain⟨inf,h1,h2,h3,h4⟩:=qca hf;rw [hf];have hb:qai cap none=some cap:=rfl;simp only [qd7,h1,if_neg hc,h2,hb];generalize qai len hi=bh;cases qai 0 lo with
 |none=>cases bh<;>rfl
 |some l=>
  cases bh with
  |none=>rfl
  |some h=>simp [qcu]
variable {ev:Operand→Value} {dst:Option Tmp} {ty:TypeId} {pos:String} {after:Array Edge} {g:Option (Nat×Bool)}
@[simp] theorem copE_bs0 (t:TypeId) (h:(qc6 P t).isSome=true):cop P σ ev ⟨dst, .buildSlice t 0 #[],ty,pos,after,g⟩= .val (.slice (some ⟨σ.n,0,none⟩) 0 0) (σ.alloc (.cells [] (((qc6 P t).map (·.1)).getD 0) false)):=by
 obtain⟨⟨e,f⟩,hf⟩:=Option.isSome_iff_exists.1 h;obtain⟨inf,h1,h2,h3,h4⟩:=qca hf;rw [hf];simp [cop,qe3,h1,Instr.fill,OpR.ofP]
end
def qmu (e:TypeId) (args:Array Value) (σ:CSt):Option Value:=
 match args with
 |⟨[.slice (some ⟨i,_,none⟩) _ _, .slice (some ⟨j,_,none⟩) _ _]⟩=>
  if i≠j then
   match σ.get i,σ.get j with
   |some (.cells _ e' false),some (.cells (_::_) _ false)=>if e'=e then some (.bool false) else none
   |_,_=>none
  else none
 |_=>none
section
variable {P:Program} {w:World} {tS tR e:TypeId} {size:Nat}
theorem qfs (ht:P.underlying tS=some (.slice e)) (hz:∀w,(Go.sizeOf e).run P w= .ok size w) (a b:Addr) (la ca lb cb:Nat) (h:la=0∨lb=0):
  (Extern.SlicesOverlaps.overlaps #[tS,tS] #[tR] #[.slice (some a) la ca, .slice (some b) lb cb]).run P w= .ok (.bool false) w:=by
 change Sem.run P (α:=Value) (do
  let some t:=(#[tS,tS]:Array TypeId)[0]? |stuck "slices.overlaps: no parameter types"
  let .slice elem ←underlying t|stuck "slices.overlaps: slice type expected"
  let size ←sizeOf elem
  match(some a:Option Addr),(some b:Option Addr) with
  |some a,some b=>
   if la=0∨lb=0∨size=0 then pure (Value.bool false)
   else if a.block !=b.block&&(←frozen a)&&(←frozen b) then unsupported .addressObserved
   else do
    if a.block !=b.block then do
     noView a;noView b
     if ←mayBeOne a b then return Value.bool ((←choose (.extern "sameAddr.stringBytes" 2))==1)
    pure (Value.bool (a.block==b.block&&a.off<b.off+lb*size&&b.off<a.off+la*size))
  |_,_=>pure (Value.bool false)) w=_
 have h0:la=0∨lb=0∨size=0:=by rcases h with h|h<;>simp [h]
 simp [run_underlying ht,hz,h0]
theorem VR.sliceForm {ρ:Rho} {i off n c:Nat} {v:Value} (h:VR ρ (.slice (some ⟨i,off,none⟩) n c) v):
  (∃p c',ρ i=some p∧v= .slice (some ⟨p.b,p.o+off,none⟩) n c')∨(n=0∧∃a,v= .slice (some a) 0 0):=by
 cases h with
 |plain v hf=>simp [qae] at hf
 |slc _ _ _ _ p hp hc=>exact .inl ⟨p,_,hp,rfl⟩
 |slo _ _ _ _ p hp _ _ _=>exact .inl ⟨p,_,hp,rfl⟩
 |sle _ _ a p hp _=>exact .inr ⟨rfl,a,rfl⟩
 |slz _ _ a p hp=>exact .inr ⟨rfl,a,rfl⟩
theorem qvq {f:FuncId} {fn:Func} (hf:P.funcs[f]? =some fn) (hname:(fn.name== "runtime.NumGoroutine")=false) (hb:fn.body.isNone=true) (hn:Extern.findNext fn=none)
  (he:Extern.find fn=some (Extern.SlicesOverlaps.overlaps #[tS,tS] #[tR])) (ht:P.underlying tS=some (.slice e)) (hz:∀w,(Go.sizeOf e).run P w= .ok size w) (hu:P.underlying e≠some (.int .u8))
  {args:Array Value} {σ:CSt} {v:Value} (h:qmu e args σ=some v) {ρ:Rho} {args':Array Value} (hR:R P ρ σ w) (ha:AsR ρ args args'):
  ∃v' w',Sw w w'∧(callFunc f args').run P w= .ok (.value v') w'∧VR ρ v v':=by
 unfold qmu at h;split at h
 ·rename_i i oi ni ci j oj nj cj;split at h
  ·rename_i hne;split at h
   ·rename_i ca ea x cb eb hgi hgj;split at h
    ·rename_i hee;subst hee;cases h;have hl:=ha.toList;obtain⟨x,y,rfl,hx,hy⟩:∃x y,args'= #[x,y]∧VR ρ (.slice (some ⟨i,oi,none⟩) ni ci) x∧VR ρ (.slice (some ⟨j,oj,none⟩) nj cj) y:=by
      have h1:=hl.1
      match hy:args'.toList,h1 with
      | [x,y],_=>
       rw [hy] at hl;exact⟨x,y,by rw [←Array.toArray_toList (xs:=args'),hy],hl.head,hl.tail.head⟩
     obtain⟨p,hp,hop⟩:=hR.live_of_get hgi (by simp)
     obtain⟨q,hq,hoq⟩:=hR.live_of_get hgj (by simp)
     have hpq:p.b≠q.b:=hR.inj i j p q hne hp hq ⟨_,hgi,rfl,by simp⟩ ⟨_,hgj,by simp⟩
     have key:(Extern.SlicesOverlaps.overlaps #[tS,tS] #[tR] #[x,y]).run P w= .ok (.bool false) w:=by
      rcases hx.sliceForm with⟨p1,c1,h1,rfl⟩|⟨rfl,a1,rfl⟩
      ·rcases hy.sliceForm with⟨q1,c2,h2,rfl⟩|⟨rfl,a2,rfl⟩
       ·rw [hp] at h1;cases h1;rw [hq] at h2;cases h2;obtain⟨z1,cc,fz,g1,g2,g3,g4,g5⟩:=hop;obtain⟨z2,cc2,fz2,k1,k2,k3,k4,k5⟩:=hoq;have hfz:fz.1=fz.2:=by
         rcases g5 with g|g
         ·exact g
         ·exact absurd g.2 hu
        refine Lib.run_overlaps_apart w tS tR _ ht size hz _ _ _ _ _ _ hpq ea eb cc.size cc2.size (by simp [World.shape?,g1]) (by simp [World.shape?,k1]) ?_ ?_ ?_
        ·simp at k3;omega
        ·simp only [World.frozen?,g1,Bool.and_eq_false_iff,decide_eq_false_iff_not];omega
        ·simp only [World.frozen?,g1,Bool.and_eq_false_iff,decide_eq_false_iff_not];omega
       ·exact qfs ht hz _ _ _ _ _ _ (.inr rfl)
      ·rcases hy.sliceForm with⟨q1,c2,h2,rfl⟩|⟨rfl,a2,rfl⟩
       ·exact qfs ht hz _ _ _ _ _ _ (.inl rfl)
       ·exact qfs ht hz _ _ _ _ _ _ (.inl rfl)
     refine⟨.bool false,w,Sw.refl w, ?_, .plain _ rfl⟩;rw [run_callFunc_extern hf hname hb hn he,key]
     rfl
    ·cases h
   ·cases h
  ·cases h
 ·cases h
end
theorem VR.back {ρ ρ':Rho} (hr:ρ.le ρ') {v u:Value} (h:VR ρ v u):∀{v':Value},VR ρ' v v'→VR ρ v v':=by
 have same:∀{i:Nat} {p q:Place},ρ i=some p→ρ' i=some q→q=p:=λh1 h2=>by rw [hr _ _ h1] at h2;exact(Option.some.inj h2).symm
 induction h with
 |junk v=>intro v' h';exact .junk v'
 |nope=>intro v' h';cases h' with
  |nope=>exact .nope
  |plain v hf=>simp [qae] at hf
 |plain v hf=>intro v' h';have:=h'.flat_eq hf;subst this;exact .plain _ hf
 |ptr i off p hp=>intro v' h';cases h' with
  |plain v hf=>simp [qae] at hf
  |ptr _ _ q hq=>have:=same hp hq;subst this;exact .ptr i off _ hp
 |slc i off n c p hp hc=>intro v' h';cases h' with
  |plain v hf=>simp [qae] at hf
  |slc _ _ _ _ q hq _=>have:=same hp hq;subst this;exact .slc i off n c _ hp hc
  |slo=>exact absurd rfl hc
  |sle=>exact absurd rfl hc
  |slz _ _ a q hq=>have:=same hp hq;subst this;exact .slz i off a _ hp
 |slo i off n c p hp hn hc hb=>intro v' h';cases h' with
  |plain v hf=>simp [qae] at hf
  |slc _ _ _ _ q hq hcc=>exact absurd rfl hcc
  |slo _ _ _ c2 q hq h1 h2 h3=>have:=same hp hq;subst this;exact .slo i off n c2 _ hp h1 h2 h3
  |sle _ _ a q hq h1=>have:=same hp hq;subst this;exact .sle i off a _ hp h1
 |sle i off a p hp he=>intro v' h';cases h' with
  |plain v hf=>simp [qae] at hf
  |slc _ _ _ _ q hq hcc=>exact absurd rfl hcc
  |slo _ _ _ c2 q hq h1 h2 h3=>have:=same hp hq;subst this;exact .slo i off 0 c2 _ hp h1 h2 h3
  |sle _ _ a q hq h1=>have:=same hp hq;subst this;exact .sle i off a _ hp h1
 |slz i off a p hp=>intro v' h';cases h' with
  |plain v hf=>simp [qae] at hf
  |slc _ _ _ _ q hq hcc=>have:=same hp hq;subst this;exact .slc i off 0 0 _ hp hcc
  |slz _ _ a q hq=>have:=same hp hq;subst this;exact .slz i off a _ hp
 |map i p hp=>intro v' h';cases h' with
  |plain v hf=>simp [qae] at hf
  |map _ q hq=>have:=same hp hq;subst this;exact .map i _ hp
 |func f g as0 bs cs ds hf h1 h2 h3 h4 i2 i4=>intro v' h';cases h' with
  |plain v hf=>simp [qae] at hf
  |func _ g2 _ bs2 _ ds2 hf2 k1 k2 k3 k4=>
   refine .func f g2 as0 bs2 cs ds2 ?_ k1 (λi u v=>i2 i u (by omega) (k2 i u v)) k3 (λi u v=>i4 i u (by omega) (k4 i u v))
   cases hf with
   |same f h=>cases hf2 with
    |same _ h'=>exact .same _ h
    |yield l p hp=>exact absurd rfl (h l)
   |yield l p hp=>cases hf2 with
    |same _ h'=>exact absurd rfl (h' l)
    |yield _ q hq=>have:=same hp hq;subst this;exact .yield l _ hp
 |iface t v w h ih=>intro v' h';cases h' with
  |plain v hf=>simp [qae] at hf
  |iface _ _ w2 h2=>exact .iface t v w2 (ih h2)
 |agg as0 bs h1 h2 ih=>intro v' h';cases h' with
  |plain v hf=>simp [qae] at hf
  |agg _ bs2 k1 k2=>exact .agg as0 bs2 k1 λi u v=>ih i u (by omega) (k2 i u v)
 |tuple as0 bs h1 h2 ih=>intro v' h';cases h' with
  |junk=>exact .junk _
  |plain v hf=>simp [qae] at hf
  |tuple _ bs2 k1 k2=>exact .tuple as0 bs2 k1 λi u v=>ih i u (by omega) (k2 i u v)
theorem OR.back {P:Program} {ρ ρ':Rho} (hr:ρ.le ρ') {p:Place} {w w':World} {o:CObj} (h:OR P ρ p w o) (h':OR P ρ' p w' o):OR P ρ p w' o:=by
 cases o with
 |cells c e ro=>
  cases ro with
  |true=>
   refine⟨h'.1,λk u=> ?_⟩
   obtain⟨_,_,g⟩:=h.2 k u;obtain⟨v',g1,g2⟩:=h'.2 k u;exact⟨v',g1,g.back hr g2⟩
  |false=>
   obtain⟨z,cc,fz,h1,h2,h3,h4,h5⟩:=h';obtain⟨_,_,_,_,_,_,k4,_⟩:=h;refine⟨z,cc,fz,h1,h2,h3,λk u=> ?_,h5⟩
   obtain⟨_,_,g⟩:=k4 k u;obtain⟨v',g1,g2⟩:=h4 k u;exact⟨v',g1,g.back hr g2⟩
 |map es n=>
  obtain⟨es',h1,h2,h3⟩:=h';obtain⟨es0,_,k2,k3⟩:=h;refine⟨es',h1,h2,λi u v=> ?_⟩
  obtain⟨a,b,c,d⟩:=h3 i u v;exact⟨a,b,c,(k3 i u (by omega)).val.back hr d⟩
 |siter s n=>exact h'
 |miter m since seen stp=>
  obtain⟨h1,m',h2,h3⟩:=h';obtain⟨_,m0,_,k3⟩:=h;refine⟨h1,m',h2, ?_⟩;cases m with
  |none=>exact h3
  |some i=>
   obtain⟨q,hq,rfl⟩:=h3;obtain⟨q0,hq0,_⟩:=k3;have:=hr _ _ hq0;rw [hq] at this;cases this;exact⟨q,hq0,rfl⟩
 |loop st pend fn tm sz ps asg body=>
  obtain⟨r,h1,h2,h3,h4,h5,h6,h7,h8⟩:=h';obtain⟨r0,_,_,_,_,_,_,_,k8⟩:=h;refine⟨r,h1,h2,h3,h4,h5,h6,h7,h8.1,λi=>(k8.2 i).back hr (h8.2 i)⟩
 |dead=>trivial
theorem R.forget {P:Program} {ρ ρ':Rho} {σ σ':CSt} {w w':World} (h:R P ρ σ w) (h':R P ρ' σ' w') (hr:ρ.le ρ') {k:Option Nat} (hk:∀i,k=some i→i<σ.n) (hold:∀y,y<σ.n→k≠some y→σ'.get y=σ.get y)
  {x:Nat} {p:Place} {c want:List Value} {e:TypeId} (hx:σ'.get x=some (.cells c e false)) (hp:ρ' x=some p) (hxk:x<σ.n→k=some x) (hw:want=c.take want.length) (hv:∀v∈want,∃u,VR ρ v u):
  let σf:=(match k with|some i=>σ.put i .dead|none=>σ).alloc (.cells want e false)
  let ρf:Rho:=λy=>if y=σ.n then some p else if y<σ.n then ρ y else none
  R P ρf σf w'∧ρ.le ρf:=by
 intro σf ρf;have hgn:=h.gn;have hle:ρ.le ρf:=λy r hy=>by
  have:y<σ.n:=by
   by_cases hl:y<σ.n
   ·exact hl
   ·rw [h.dom y (by omega)] at hy;cases hy
  simp only [ρf];rw [if_neg (by omega),if_pos this]
  exact hy
 have hn:(match k with|some i=>σ.put i .dead|none=>σ).n=σ.n:=by cases k<;>rfl
 have hget:∀y,y≠σ.n→σf.get y=if k=some y then some .dead else σ.get y:=λy hy=>by
  simp only [σf];rw [CSt.get_alloc,hn,if_neg hy];cases k with
  |none=>simp
  |some i=>
   rw [CSt.get_put];by_cases e:y=i
   ·simp [e]
   ·rw [if_neg e,if_neg (by intro h;cases h;exact e rfl)]
 have hself:σf.get σ.n=some (.cells want e false):=by simp only [σf];rw [CSt.get_alloc,hn,if_pos rfl]
 have hlive:∀y,y≠σ.n→live σf y→live σ y∧k≠some y∧y<σ.n:=λy hy hl=>by
  obtain⟨o,ho,hd⟩:=hl;rw [hget y hy] at ho;by_cases e:k=some y
  ·rw [if_pos e] at ho;cases ho;exact absurd rfl hd
  ·rw [if_neg e] at ho;refine⟨⟨o,ho,hd⟩,e, ?_⟩;obtain⟨r,hr⟩:=h.tot y ⟨o,ho,hd⟩;by_cases hl:y<σ.n
   ·exact hl
   ·rw [h.dom y (by omega)] at hr;cases hr
 have hlive':∀y,y≠σ.n→live σf y→live σ' y:=λy hy hl=>by
  obtain⟨⟨o,ho,hd⟩,hk,hlt⟩:=hlive y hy hl;exact⟨o,by rw [hold y hlt hk];exact ho,hd⟩
 have hrw:∀y,y≠σ.n→rw_ σf y→rw_ σ' y:=λy hy hl=>by
  have h1:=hlive y hy (qcq hl);obtain⟨o,ho,hro,hd⟩:=hl;rw [hget y hy,if_neg h1.2.1] at ho;exact⟨o,by rw [hold y h1.2.2 h1.2.1];exact ho,hro,hd⟩
 have hρn:ρf σ.n=some p:=if_pos rfl;have hrx:rw_ σ' x:=⟨_,hx,rfl,by simp⟩
 have hρ:∀y r,y≠σ.n→ρf y=some r→ρ y=some r∧ρ' y=some r:=λy r hy hr'=>by
  simp only [ρf] at hr';rw [if_neg hy] at hr';split at hr'
  ·exact⟨hr',hr _ _ hr'⟩
  ·cases hr'
 have hnx:∀y,y≠σ.n→live σf y→y≠x:=λy hy hl e=>by
  subst e;have h1:=hlive y hy hl;exact h1.2.1 (hxk h1.2.2)
 refine⟨⟨λy hy=> ?_,λy hy=> ?_,λy r hy hl=> ?_,λy o r ho hy=> ?_,λa b r s hne ha hb hra hlb=> ?_,λg hg=> ?_, ?_⟩,hle⟩
 ·have:σ.n+1≤y:=by simpa [σf,hn] using hy
  simp only [ρf];rw [if_neg (by omega),if_neg (by omega)]
 ·by_cases e:y=σ.n
  ·exact⟨_,by simp only [ρf];rw [if_pos e]⟩
  ·obtain⟨h1,h2,h3⟩:=hlive y e hy;obtain⟨r,h4⟩:=h.tot y h1;exact⟨r,hle _ _ h4⟩
 ·by_cases e:y=σ.n
  ·subst e;rw [hρn] at hy;cases hy;exact h'.lt x p hp (qcq hrx)
  ·exact h'.lt y r (hρ y r e hy).2 (hlive' y e hl)
 ·by_cases e:y=σ.n
  ·subst e;rw [hself] at ho;cases ho;rw [hρn] at hy;cases hy;obtain⟨z,cc,fz,h1,h2,h3,h4,h5⟩:=h'.obj x _ p hx hp;have hlen:want.length≤c.length:=by rw [hw];simp;omega
   refine⟨z,cc,fz,h1,h2,by omega,λj u=> ?_,h5⟩
   obtain⟨v',g1,g2⟩:=h4 j (by omega)
   have hwj:want[j]=c[j]:=by
    have:want[j]? =(c.take want.length)[j]? :=by rw [←hw]
    rw [List.getElem?_take,if_pos u,List.getElem?_eq_getElem u,List.getElem?_eq_getElem (by omega)] at this
    exact Option.some.inj this
   obtain⟨u0,hu0⟩:=hv want[j] (List.getElem_mem u);rw [←hwj] at g2;exact⟨v',g1,(hu0.back hr g2).mono hle⟩
  ·by_cases hd:o= .dead
   ·subst hd;trivial
   ·obtain⟨h1,h2,h3⟩:=hlive y e ⟨o,ho,hd⟩;have h4:=hρ y r e hy;rw [hget y e,if_neg h2] at ho;have:=(h.obj y o r ho h4.1).back hr (h'.obj y o r (by rw [hold y h3 h2];exact ho) h4.2)
    exact this.mono hle
 ·by_cases ea:a=σ.n
  ·subst ea;have eb:b≠σ.n:=λe=>hne e.symm
   rw [hρn] at ha;cases ha;exact h'.inj x b p s (Ne.symm (hnx b eb hlb)) hp (hρ b s eb hb).2 hrx (hlive' b eb hlb)
  ·by_cases eb:b=σ.n
   ·subst eb;rw [hρn] at hb;cases hb;exact h'.inj a x r p (hnx a ea (qcq hra)) (hρ a r ea ha).2 hp (hrw a ea hra) (qcq hrx)
   ·exact h'.inj a b r s hne (hρ a r ea ha).2 (hρ b s eb hb).2 (hrw a ea hra) (hlive' b eb hlb)
 ·obtain⟨r,h1,h2⟩:=h.glob g hg;exact⟨r,hle _ _ h1,h2⟩
 ·simp [σf,hn];omega
def qbh (sz a n:Nat) (row new:List Value):List Value:=row.take (a*sz)++new++(row.take (n*sz)).drop (a*sz)
def qvl (e sz bytes:Nat) (args:Array Value) (σ:CSt):Option (Value×CSt):=
 match args with
 |⟨[s, .int .i64 a, .slice (some ⟨j,0,none⟩) 1 1]⟩=>
  match σ.get j with
  |some (.cells new e1 false)=>
   if e1=e∧new.length=sz∧new.all cellv=true∧0≤a∧bytes≤2^47 then
    match s with
    | .slice none 0 0=>if a=0 then some (.slice (some ⟨σ.n,0,none⟩) 1 qa1,σ.alloc (.cells new e false)) else none
    | .slice (some ⟨i,0,none⟩) n c=>
     match σ.get i with
     |some (.cells row e2 false)=>
      if e2=e∧i≠j∧n*sz≤row.length∧(row.take (n*sz)).all cellv=true∧a≤n∧(n+1)*bytes≤2^47∧n<2^40 then
       if c=qa1 then some (.slice (some ⟨σ.n,0,none⟩) (n+1) qa1,(σ.put i .dead).alloc (.cells (qbh sz a.toNat n row new) e false))
       else if n=0∧c=0 then some (.slice (some ⟨σ.n,0,none⟩) 1 qa1,σ.alloc (.cells new e false)) else none
      else none
     |_=>none
    |_=>none
   else none
  |_=>none
 |_=>none
theorem qw0 {e sz bytes j:Nat} {σ:CSt} {new:List Value} (hj:σ.get j=some (.cells new e false)) (hl:new.length=sz) (hc:new.all cellv=true) (hb:bytes≤2^47):
  qvl e sz bytes #[.slice none 0 0, .int .i64 0, .slice (some ⟨j,0,none⟩) 1 1] σ=some (.slice (some ⟨σ.n,0,none⟩) 1 qa1,σ.alloc (.cells new e false)):=by
 have hcc:e=e∧new.length=sz∧new.all cellv=true∧(0:Int)≤0∧bytes≤2^47:=⟨rfl,hl,hc,by omega,hb⟩
 show(match σ.get j with|some (.cells new e1 false)=>if e1=e∧new.length=sz∧new.all cellv=true∧(0:Int)≤0∧bytes≤2^47 then(if(0:Int)=0 then some (Value.slice (some ⟨σ.n,0,none⟩) 1 qa1,σ.alloc (.cells new e false)) else none) else none|_=>none)=_
 rw [hj];show(if _ then _ else _)=_
 rw [if_pos hcc,if_pos rfl]
theorem qik {e sz bytes i j n c:Nat} {a:Int} {σ:CSt} {row new:List Value} (hi:σ.get i=some (.cells row e false)) (hj:σ.get j=some (.cells new e false)) (hl:new.length=sz) (hc:new.all cellv=true) (hb:bytes≤2^47)
  (ha:0≤a) (h1:i≠j) (h2:n*sz≤row.length) (h3:(row.take (n*sz)).all cellv=true) (h4:a≤n) (h5:(n+1)*bytes≤2^47) (h6:n<2^40):
  qvl e sz bytes #[.slice (some ⟨i,0,none⟩) n c, .int .i64 a, .slice (some ⟨j,0,none⟩) 1 1] σ=
   if c=qa1 then some (.slice (some ⟨σ.n,0,none⟩) (n+1) qa1,(σ.put i .dead).alloc (.cells (qbh sz a.toNat n row new) e false))
   else if n=0∧c=0 then some (.slice (some ⟨σ.n,0,none⟩) 1 qa1,σ.alloc (.cells new e false)) else none:=by
 have hcc:e=e∧new.length=sz∧new.all cellv=true∧0≤a∧bytes≤2^47:=⟨rfl,hl,hc,ha,hb⟩;have hcd:e=e∧i≠j∧n*sz≤row.length∧(row.take (n*sz)).all cellv=true∧a≤n∧(n+1)*bytes≤2^47∧n<2^40:=⟨rfl,h1,h2,h3,h4,h5,h6⟩
 show(match σ.get j with|some (.cells new e1 false)=>if e1=e∧new.length=sz∧new.all cellv=true∧0≤a∧bytes≤2^47 then(match σ.get i with
     |some (.cells row e2 false)=>
      if e2=e∧i≠j∧n*sz≤row.length∧(row.take (n*sz)).all cellv=true∧a≤n∧(n+1)*bytes≤2^47∧n<2^40 then
       if c=qa1 then some (Value.slice (some ⟨σ.n,0,none⟩) (n+1) qa1,(σ.put i .dead).alloc (.cells (qbh sz a.toNat n row new) e false))
       else if n=0∧c=0 then some (Value.slice (some ⟨σ.n,0,none⟩) 1 qa1,σ.alloc (.cells new e false)) else none
      else none
     |_=>none) else none|_=>none)=_
 rw [hj];show(if _ then _ else _)=_
 rw [if_pos hcc,hi];show(if _ then _ else _)=_
 rw [if_pos hcd]
def qe9 (σ:CSt) (k:Option Nat) (cap:Nat) (e:TypeId) (want:List Value) (n1:Nat) (o:Out) (σ':CSt):Prop:=
 ∃x c kk,o= .ret (.slice (some ⟨x,0,none⟩) n1 kk) false∧σ'.get x=some (.cells c e false)∧want=c.take want.length∧((σ.n≤x∧kk=qa1)∨(k=some x∧kk=cap∧n1≤cap))∧
  ∀y,y<σ.n→k≠some y→σ'.get y=σ.get y
def insEnd (σ:CSt) (k:Option Nat) (o:CObj):CSt:=(match k with|some i=>σ.put i .dead|none=>σ).alloc o
theorem qs5 {P:Program} {f:FuncId} {cs:List Frame} {ρ:Rho} {σ σ2:CSt} {w:World} (hR:R P ρ σ w) (hn:σ2.n=σ.n) {k:Option Nat} (hk:∀i,k=some i→i<σ.n) (hs:∀y,k≠some y→σ2.get y=σ.get y)
  (hrw:∀y,rw_ σ2 y→rw_ σ y) {m:Machine} {want:List Value} {e:TypeId} {n1 cap:Nat} (hn1:0<n1) (hv:∀v∈want,∃u,VR ρ v u) (hcap:∀i,k=some i→∃p,ρ i=some p∧cap*p.z=p.e∧cap<qa1)
  (h:qq1 w.heap.size P m f cs none ρ σ2 w (qe9 σ2 k cap e want n1)) {Q:Out→CSt→Prop} (hq:Q (.ret (.slice (some ⟨σ.n,0,none⟩) n1 qa1) false) (insEnd σ k (.cells want e false))):qq1 w.heap.size P m f cs none ρ σ w Q:=by
 rcases h with⟨v,tk,σ',ρ',w',v',fr,hp,hR',hF,hvr,h1,h2,h3,h4,h5,h6,h7⟩|⟨v,σ',ρ',w',v',fr,hp,_⟩
 ·obtain⟨x,c,kk,ho,hx,hw,hkk,hold⟩:=hp;cases ho;rw [hn] at hold hkk;obtain⟨p,hpx⟩:∃p,ρ' x=some p:=hR'.tot x ⟨_,hx,by simp⟩
  have hxk:x<σ.n→k=some x:=λhl=>by
   rcases hkk with h|h
   ·omega
   ·exact h.1
  obtain⟨r1,r2⟩:=hR.forget hR' hF.le hk (λy hy hyk=>by rw [hold y hy hyk,hs y hyk]) hx hpx hxk hw hv
  refine .inl ⟨_,false,_,_,w',v',fr,hq,r1, ?_, ?_,h1,λ_=>rfl,h3,h4,h5,h6,h7⟩
  ·refine⟨r2,hF.os,hF.tape,hF.output,hF.size,λb hb hno=>hF.keep b hb λi p hi hri=>hno i p hi (hrw i hri),λy p0 hy hyr=> ?_⟩
   by_cases e0:y=σ.n
   ·subst e0;rw [if_pos rfl] at hy;cases hy;rcases hF.fresh x p hpx ⟨_,hx,rfl,by simp⟩ with h|⟨j,q,a,b,c⟩
    ·exact .inl h
    ·exact .inr ⟨j,q,a,hrw j b,c⟩
   ·rw [if_neg e0] at hy;split at hy
    ·refine .inr ⟨y,p0,hy, ?_,rfl⟩;obtain⟨o,ho,a,b⟩:=hyr;have hn':(match k with|some i=>σ.put i .dead|none=>σ).n=σ.n:=by cases k<;>rfl
     unfold insEnd at ho;rw [CSt.get_alloc,hn',if_neg e0] at ho;cases k with
     |none=>exact⟨o,ho,a,b⟩
     |some i=>
      simp only [CSt.get_put] at ho;split at ho
      ·cases ho;exact absurd rfl b
      ·exact⟨o,ho,a,b⟩
    ·cases hy
  ·have hself:(λy=>if y=σ.n then some p else if y<σ.n then ρ y else none:Rho) σ.n=some p:=if_pos rfl
   rcases hkk with⟨hxn,rfl⟩|⟨hkx,rfl,hle⟩
   ·cases hvr with
    |plain v hf=>simp [qae] at hf
    |slc _ _ _ _ q hq2 hcc=>exact absurd rfl hcc
    |slo _ _ _ c2 q hq2 a b d=>rw [hpx] at hq2;cases hq2;exact .slo _ _ _ _ _ hself a b d
    |sle=>omega
   ·obtain⟨p2,hp2,hc1,hc2⟩:=hcap x hkx;have:=hF.le _ _ hp2;rw [hpx] at this;cases this;cases hvr with
    |plain v hf=>simp [qae] at hf
    |slc _ _ _ _ q hq2 hcc=>rw [hpx] at hq2;cases hq2;exact .slo _ _ _ _ _ hself hle (by omega) hc2
    |slo _ _ _ c2 q hq2 a b d=>exact absurd hc2 (by omega)
    |sle=>omega
    |slz=>omega
 ·obtain⟨x,c,kk,ho,_⟩:=hp;cases ho
structure InsW (E:Env) (f:FuncId) (e:TypeId) (sz bytes:Nat):Prop where
 nil:∀(σ:CSt) (j:Nat) (new:List Value),j<σ.n→σ.get j=some (.cells new e false)→new.length=sz→new.all cellv=true→bytes≤2^47→
  W E (.fn f #[.slice none 0 0, .int .i64 0, .slice (some ⟨j,0,none⟩) 1 1] none) σ (qe9 σ none 0 e new 1)
 zero:∀(σ:CSt) (i j:Nat) (row new:List Value),i<σ.n→j<σ.n→i≠j→σ.get i=some (.cells row e false)→σ.get j=some (.cells new e false)→new.length=sz→new.all cellv=true→bytes≤2^47→
  W E (.fn f #[.slice (some ⟨i,0,none⟩) 0 0, .int .i64 0, .slice (some ⟨j,0,none⟩) 1 1] none) σ (qe9 σ none 0 e new 1)
 some_:∀(σ:CSt) (i j n a k:Nat) (row new:List Value),i<σ.n→j<σ.n→i≠j→σ.get i=some (.cells row e false)→σ.get j=some (.cells new e false)→new.length=sz→new.all cellv=true→
  n*sz≤row.length→k*sz≤row.length→(row.take (n*sz)).all cellv=true→a≤n→(n+1)*bytes≤2^47→n<2^40→n≤k→k<qa1→
  W E (.fn f #[.slice (some ⟨i,0,none⟩) n k, .int .i64 a, .slice (some ⟨j,0,none⟩) 1 1] none) σ (qe9 σ (some i) k e (qbh sz a n row new) (n+1))
theorem qi8 {P:Program} {ρ:Rho} {σ:CSt} {w:World} (hR:R P ρ σ w) {i:Nat} {row:List Value} {e:TypeId} (hg:σ.get i=some (.cells row e false)):∀v∈row,∃u,VR ρ v u:=by
 intro v hv;obtain⟨p,hp,hor⟩:=hR.live_of_get hg (by simp)
 obtain⟨j,hj,rfl⟩:=List.mem_iff_getElem.1 hv;obtain⟨_,cc,fz,h1,h2,h3,h4,h5⟩:=hor;obtain⟨v',_,h⟩:=h4 j hj;exact⟨v',h⟩
theorem R.lt_of_get {P:Program} {ρ:Rho} {σ:CSt} {w:World} (hR:R P ρ σ w) {i:Nat} {o:CObj} (hg:σ.get i=some o) (hd:o≠ .dead):i<σ.n:=by
 obtain⟨p,hp,_⟩:=hR.live_of_get hg hd;by_cases h:i<σ.n
 ·exact h
 ·rw [hR.dom i (by omega)] at hp;cases hp
theorem qfe.of_R {P:Program} {f:FuncId} {args:Array Value} {σ:CSt} {Q:Out→CSt→Prop} (hb:∃fn,P.funcs[f]? =some fn∧fn.body.isSome=true) (h:∀(ρ:Rho) (w:World),R P ρ σ w→qfe P f args none σ Q):qfe P f args none σ Q:=
 ⟨hb,fun ρ w args' cs hR=>(h ρ w hR).2 ρ w args' cs hR⟩
theorem qp3 {E:Env} (G:Good E.P) (HE:qmj E) (HG:qnu E) {f:FuncId} {e:TypeId} {sz bytes:Nat} (hbody:∃fn,E.P.funcs[f]? =some fn∧fn.body.isSome=true) (hce:E.P.cellsOf e=sz) (hsz:0<sz) (H:InsW E f e sz bytes)
  {args:Array Value} {σ:CSt} {v:Value} {σ':CSt} (h:qvl e sz bytes args σ=some (v,σ')) {Q:Out→CSt→Prop} (hq:Q (.ret v false) σ'):qfe E.P f args none σ Q:=by
 unfold qvl at h;split at h
 ·rename_i s a j;split at h
  ·rename_i new e1 hgj;split at h
   ·rename_i hc;obtain⟨rfl,hl,hcv,ha0,hby⟩:=hc;refine qfe.of_R hbody fun ρ0 w0 hR0=> ?_
    have hjn:=hR0.lt_of_get hgj (by simp)
    split at h
    ·split at h
     ·rename_i ha;subst ha;cases h;have hs:=(H.nil σ j new hjn hgj hl hcv hby).sim G HE HG;exact⟨hbody,fun ρ w args' cs hR hA hd=>qs5 (k:=none) hR rfl (by simp) (λ_ _=>rfl) (λ_ h=>h) (by omega) (qi8 hR hgj) (by simp) (hs.2 ρ w args' cs hR hA hd) hq⟩
     ·cases h
    ·rename_i i n c;split at h
     ·rename_i row e2 hgi;split at h
      ·rename_i hc2;obtain⟨rfl,hij,hrl,hrc,han,hbn,hn40⟩:=hc2;have hin:=hR0.lt_of_get hgi (by simp)
       obtain⟨a,rfl⟩:=Int.eq_ofNat_of_zero_le ha0;have han':a≤n:=by omega
       split at h
       ·rename_i ho;subst ho;cases h;refine⟨hbody,fun ρ w args' cs hR hA hd=> ?_⟩
        obtain⟨p,hp,hor⟩:=hR.live_of_get hgi (by simp)
        have hsz0:0<args'.size:=by rw [←hA.1];simp
        have hv:=hA.2 0 (by simp) hsz0
        generalize hx:args'[0]=x at hv;have hvals:∀v∈qbh sz a n row new,∃u,VR ρ v u:=by
         intro v hv;simp only [qbh,List.mem_append] at hv;rcases hv with(h1|h1)|h1
         ·exact qi8 hR hgi v (List.mem_of_mem_take h1)
         ·exact qi8 hR hgj v h1
         ·exact qi8 hR hgi v (List.mem_of_mem_take (List.mem_of_mem_drop h1))
        have go:∀k,n≤k→k<qa1→k*p.z=p.e→VR ρ (.slice (some ⟨i,0,none⟩) n k) x→qq1 w.heap.size E.P (lone (Frame.enter E.P f args' (qgl none)) cs w) f cs none ρ σ w Q:=by
         intro k h1 h2 h3 h4;have hb:=hR.bare (off:=0) hgi hp (cc:=k) (.inr (by omega))
         rw [hce] at hb;have hbr:(qbg row 0 sz k).take (n*sz)=row.take (n*sz):=by
          unfold qbg;split
          ·rfl
          ·rw [List.take_append_of_le_length hrl]
         have hbr2:(qbg row 0 sz k).take (a*sz)=row.take (a*sz):=by
          have hle:a*sz≤row.length:=Nat.le_trans (Nat.mul_le_mul_right _ han') hrl;unfold qbg;split
          ·rfl
          ·rw [List.take_append_of_le_length hle]
         have hbl:n*sz≤(qbg row 0 sz k).length∧k*sz≤(qbg row 0 sz k).length:=by
          unfold qbg;split
          ·rename_i h0;subst h0;simp;omega
          ·simp;omega
         have hW:=H.some_ (σ.put i (.cells (qbg row 0 sz k) e2 false)) i j n a k (qbg row 0 sz k) new hin hjn hij (by simp) (by rw [put_get,if_neg (Ne.symm hij)];exact hgj) hl hcv hbl.1 hbl.2 (by rw [hbr];exact hrc) han' hbn hn40 h1 h2
         have hs:=hW.sim G HE HG;have hA2:AsR ρ #[.slice (some ⟨i,0,none⟩) n k, .int .i64 a, .slice (some ⟨j,0,none⟩) 1 1] args':=hA.put1 h4 hx;have hF:=hs.2 ρ w args' cs hb.1 hA2 hd;have hrow:qbh sz a n (qbg row 0 sz k) new=qbh sz a n row new:=by simp only [qbh,hbr,hbr2]
         rw [hrow] at hF;refine qs5 (σ2:=σ.put i (.cells (qbg row 0 sz k) e2 false)) (k:=some i) (cap:=k) hR rfl (λy hy=>by cases hy;exact hin) (λy hy=>by rw [CSt.get_put,if_neg (by intro e;exact hy (by rw [e]))]) (λy hy=> ?_) (by omega) hvals (λy hy=>by cases hy;exact⟨p,hp,h3,h2⟩) hF hq
         rw [qv8] at hy;by_cases e:y=i
         ·subst e;exact⟨_,hgi,rfl,by simp⟩
         ·rw [if_neg e] at hy;exact hy
        cases hv with
        |plain v hf=>simp [qae] at hf
        |slc _ _ _ _ q hq hcc=>exact absurd rfl hcc
        |slo _ _ _ cc q hq hnn hcc hbb=>
         rw [hp] at hq;cases hq;exact go cc hnn hbb (by omega) (.slc _ _ _ _ p hp (by omega))
        |sle _ _ ad q hq2 hee=>
         rw [hp] at hq2;cases hq2;exact go 0 (Nat.le_refl _) (by simp [qa1]) (by omega) (.slz _ _ _ p hp)
       ·split at h
        ·rename_i h0;obtain⟨rfl,rfl⟩:=h0;cases h;have ha:a=0:=by omega
         subst ha;have hs:=(H.zero σ i j row new hin hjn hij hgi hgj hl hcv hby).sim G HE HG;exact⟨hbody,fun ρ w args' cs hR hA hd=>qs5 (k:=none) hR rfl (by simp) (λ_ _=>rfl) (λ_ h=>h) (by omega) (qi8 hR hgj) (by simp) (hs.2 ρ w args' cs hR hA hd) hq⟩
        ·cases h
      ·cases h
     ·cases h
    ·cases h
   ·cases h
  ·cases h
 ·cases h
end Go.Sm
namespace Go.Sm
open Go Go.RowKit
set_option maxRecDepth 100000
set_option maxHeartbeats 4000000
theorem qqc {P:Program} {f:FuncId} {args:Array Value} {v:Value} (hbody:∃fn,P.funcs[f]? =some fn∧fn.body.isSome=true) (ha:∀a∈args,qae a=true) (hv:qae v=true)
  (hc:∀w:World,Calls P f args w λe w'=>e= .returned v∧Below w.heap.size w w') {σ:CSt} {Q:Out→CSt→Prop} (hq:Q (.ret v false) σ):qfe P f args none σ Q:=by
 refine⟨hbody,fun ρ w args' cs hR hA hd=> ?_⟩
 have heq:args'=args:=by
  apply Array.ext
  ·exact hA.1.symm
  ·intro i h1 h2;have:=hA.2 i h2 h1;exact this.flat_eq (ha _ (Array.getElem_mem h2))
 subst heq;obtain⟨e,w',fr,⟨rfl,hb⟩,hs,hf,hm,hdf,hk,fn,hfn,hr⟩:=hc w cs;exact .inl ⟨v,false,σ,ρ,w',v,fr,hq,hR.grow hb.size λk hk=>hb.block k hk,⟨ρ.le_refl,hb.os,hb.tape,hb.output,hb.size,λk hkk _=>hb.block k hkk,λi p a b=> .inr ⟨i,p,a,b,rfl⟩⟩, .plain _ hv,hs,λ_=>rfl,hf,hk,hm,hdf,fn,by rw [←hf];exact hfn,hr⟩
end Go.Sm
namespace Go.Sm
open Go Go.Sort
set_option maxRecDepth 100000
set_option maxHeartbeats 4000000
section
variable {P:Program} {f:FuncId}
theorem qvv {ρ:Rho} {σ:CSt} {w:World} (hR:R P ρ σ w) {i off:Nat} {p:Place} {row vs vs':List Value} {e:TypeId} (hp:ρ i=some p) (hg:σ.get i=some (.cells row e false)) (hrow:(row.drop off).take vs.length=vs) (hle:off+vs.length≤row.length)
  (hfl:∀v∈vs,qae v=true) (hfl':∀v∈vs',qae v=true) (hsl:vs'.length=vs.length):Holds id w p.b (p.o+off) vs.toArray∧p.b<w.heap.size∧∀m os,R P ρ (σ.put i (.cells (row.take off++vs'++row.drop (off+vs.length)) e false)) (grow (putRow id (Sort.ahead w m) p.b (p.o+off) vs'.toArray) os)∧
   FrmB w.heap.size ρ σ w ρ (σ.put i (.cells (row.take off++vs'++row.drop (off+vs.length)) e false)) (grow (putRow id (Sort.ahead w m) p.b (p.o+off) vs'.toArray) os):=by
 have ho:=hR.obj i _ p hg hp;obtain⟨hz,cc,fz,b1,b2,b3,b4,b5⟩:=ho;have hcell:∀j (hj:j<vs.length),cc[p.o+(off+j)]? =some vs[j]:=λj hj=>by
  obtain⟨v',x1,x2⟩:=b4 (off+j) (by omega)
  have h3:row[off+j]? =some vs[j]:=by
   have:=congrArg (λr:List Value=>r[j]?) hrow
   simp only [List.getElem?_take,if_pos hj,List.getElem?_drop,List.getElem?_eq_getElem hj] at this;exact this
  rw [List.getElem?_eq_getElem (by omega)] at h3
  have h4:=Option.some.inj h3;rw [h4] at x2;rw [x1,x2.flat_eq (hfl _ (List.getElem_mem hj))]
 have hblk:p.b<w.heap.size:=(Array.getElem?_eq_some_iff.1 b1).1;refine⟨λj hj=> ?_,hblk,λm os=> ?_⟩
 ·have hj':j<vs.length:=by simpa using hj
  refine⟨?_, ?_⟩
  ·rw [qcn b1,Nat.add_assoc,hcell j hj'];simp [hj']
  ·have hf:=zad b5 (p.o+off+j) (by omega)
   simp [World.frozen?,b1];omega
 have hwr:Wr w (putRow id (Sort.ahead w m) p.b (p.o+off) vs'.toArray) p.b (.cells (putCells id (p.o+off) vs'.toArray cc) e fz):=by
  refine⟨rfl,rfl,rfl,by simp [putRow,mapBlock,Sort.ahead],by simpa [putRow,mapBlock,Sort.ahead] using hblk,λk=> ?_⟩
  simp only [putRow,mapBlock,Sort.ahead,Array.getElem?_modify];by_cases hk:k=p.b
  ·subst hk;simp [b1,onCells]
  ·rw [if_neg hk,if_neg λe=>hk e.symm]
 have hOR:OR P ρ p (putRow id (Sort.ahead w m) p.b (p.o+off) vs'.toArray) (.cells (row.take off++vs'++row.drop (off+vs.length)) e false):=by
  have hb:=hwr.at_ p.b;rw [if_pos rfl] at hb;refine⟨hz,_,fz,hb,by simpa [putCells] using b2,by simp [hsl];omega,λk u=> ?_,by simpa [putCells] using b5⟩
  simp only [putCells,Array.getElem?_mapIdx];have hkr:k<row.length:=by simp [hsl] at u;omega
  by_cases k1:k<off
  ·obtain⟨v',x1,x2⟩:=b4 k hkr;refine⟨v',by rw [x1,Option.map_some,if_neg (by omega)], ?_⟩
   have:(row.take off++vs'++row.drop (off+vs.length))[k]=row[k]:=by
    rw [List.getElem_append_left (by simp;omega),List.getElem_append_left (by simp;omega),List.getElem_take]
   rw [this];exact x2
  ·by_cases k2:k<off+vs.length
   ·have hkc:p.o+k<cc.size:=by omega
    refine⟨vs'[k-off], ?_, ?_⟩
    ·rw [Array.getElem?_eq_getElem hkc,Option.map_some,if_pos ⟨by omega,by simp [hsl];omega⟩]
     have e1:p.o+k-(p.o+off)=k-off:=by omega
     rw [e1];simp [hsl];rw [List.getElem?_eq_getElem (by omega)]
     rfl
    ·have:(row.take off++vs'++row.drop (off+vs.length))[k]=vs'[k-off]:=by
      rw [List.getElem_append_left (by simp [hsl];omega),List.getElem_append_right (by simp;omega)]
      congr 1
      simp;omega
     rw [this];exact .plain _ (hfl' _ (List.getElem_mem _))
   ·obtain⟨v',x1,x2⟩:=b4 k hkr;refine⟨v',by rw [x1,Option.map_some,if_neg (by simp [hsl];omega)], ?_⟩
    have:(row.take off++vs'++row.drop (off+vs.length))[k]=row[k]:=by
     rw [List.getElem_append_right (by simp [hsl];omega),List.getElem_drop]
     congr 1
     simp [hsl];omega
    rw [this];exact x2
 obtain⟨hR1,hF1⟩:=hR.write hp ⟨_,hg,rfl,by simp⟩ hwr rfl (by simp) hOR
 have hks:(putRow id (Sort.ahead w m) p.b (p.o+off) vs'.toArray).heap.size=w.heap.size:=by simp [putRow,mapBlock,Sort.ahead]
 have hold:∀k,k<w.heap.size→(grow (putRow id (Sort.ahead w m) p.b (p.o+off) vs'.toArray) os).heap[k]? =(putRow id (Sort.ahead w m) p.b (p.o+off) vs'.toArray).heap[k]? :=λk hk=>heap_grow_old _ _ (by omega)
 exact⟨hR1.grow (by simp) λk hk=>hold k (by omega),ρ.le_refl,hF1.os,hF1.tape,hF1.output,by simp [hks],λk hkk hn=>by rw [hold k hkk];exact hF1.keep k hkk hn,hF1.fresh⟩
theorem qux {α:Type} {a:Array α} (h:a.size=2):∃v u,a= #[v,u]:=by
 exact⟨a[0],a[1],Array.ext (by simpa using h) λi h1 h2=>by
  match i,h2 with
  |0,_=>rfl
  |1,_=>rfl⟩
theorem qqh {ρ:Rho} {i off n c:Nat} {v:Value} (h:VR ρ (.slice (some ⟨i,off,none⟩) n c) v) (h0:n≠0):∃p c',ρ i=some p∧v= .slice (some ⟨p.b,p.o+off,none⟩) n c':=by
 cases h with
 |plain v hf=>simp [qae] at hf
 |slc i off n c p h hc=>exact⟨_,_,h,rfl⟩
 |slo i off n c p h hn hc hb=>exact⟨_,_,h,rfl⟩
 |sle i off a p h he=>exact absurd rfl h0
 |slz i off a p h=>exact absurd rfl h0
theorem qn6 {ρ:Rho} {q:Option Addr} {c:Nat} {v:Value} (h:VR ρ (.slice q 0 c) v):∃p' c',v= .slice p' 0 c':=by
 cases h with
 |plain v hf=>exact⟨_,_,rfl⟩
 |slc i off n c p h hc=>exact⟨_,_,rfl⟩
 |slo i off n c p h hn hc hb=>exact⟨_,_,rfl⟩
 |sle i off a p h he=>exact⟨_,_,rfl⟩
 |slz i off a p h=>exact⟨_,_,rfl⟩
theorem qua {ρ:Rho} {g:FuncId} {v:Value} (h:VR ρ (.func (.func g) #[] #[]) v):v= .func (.func g) #[] #[]:=by
 cases h with
 |plain v hf=>rfl
 |func f g as0 bs cs ds hf h1 h2 h3 h4=>
  have e1:bs= #[]:=Array.eq_empty_of_size_eq_zero h1.symm;have e2:ds= #[]:=Array.eq_empty_of_size_eq_zero h3.symm;subst e1 e2;cases hf
  rfl
theorem qv7 {α:Type} [Inhabited α] {enc:α→Value} {w:World} {blk off:Nat} {d:Array α}:Holds id w blk off (d.map enc)↔Holds enc w blk off d:=by
 unfold Holds;rw [Array.size_map];refine forall_congr' λj=>forall_congr' λhj=> ?_
 simp [hj]
theorem qqn {α:Type} [Inhabited α] {enc:α→Value} {w:World} {blk off:Nat} {d:Array α}:putRow enc w blk off d=putRow id w blk off (d.map enc):=by
 refine mapBlock_congr _ _ _ _ λc e fr _=> ?_
 unfold putCells;rw [Array.size_map]
 congr 1
 funext k x
 by_cases h:off≤k∧k<off+d.size
 ·rw [if_pos h,if_pos h];have:k-off<d.size:=by omega
  simp [this]
 ·rw [if_neg h,if_neg h]
theorem row_gam1 (hbody:∃fn,P.funcs[f]? =some fn∧fn.body.isSome=true) {n c:Nat} {vs vs':List Value} (hc:∀(blk off c:Nat) (w:World),Holds id w blk off vs.toArray→blk<w.heap.size→
   Calls P f #[.slice (some ⟨blk,off,none⟩) n c] w λe w'=>e= .returned (.tuple #[])∧∃m os,w'=grow (putRow id (Sort.ahead w m) blk off vs'.toArray) os)
  {σ:CSt} {i off:Nat} {row:List Value} {e:TypeId} (hg:σ.get i=some (.cells row e false)) (hrow:(row.drop off).take vs.length=vs) (hle:off+vs.length≤row.length) (h0:n≠0) (hfl:∀v∈vs,qae v=true) (hfl':∀v∈vs',qae v=true) (hsl:vs'.length=vs.length)
  {Q:Out→CSt→Prop} (hq:Q (.ret (.tuple #[]) false) (σ.put i (.cells (row.take off++vs'++row.drop (off+vs.length)) e false))):qfe P f #[.slice (some ⟨i,off,none⟩) n c] none σ Q:=by
 refine⟨hbody,fun ρ w args' cs hR hA hd=> ?_⟩
 obtain⟨v,rfl⟩:∃v,args'= #[v]:=Array.size_eq_one_iff.1 hA.1.symm
 obtain⟨p,c',hp,rfl⟩:=qqh (hA.2 0 (by simp) (by simp)) h0
 obtain⟨a1,a2,a3⟩:=qvv hR hp hg hrow hle hfl hfl' hsl;obtain⟨e,w',fr,⟨rfl,m,os,rfl⟩,hs,hf,hm,hdf,hk,fn,hfn,hr⟩:=hc p.b (p.o+off) c' w a1 a2 cs;obtain⟨a4,a5⟩:=a3 m os;exact .inl ⟨.tuple #[],false,_,ρ,_,_,fr,hq,a4,a5, .junk _,hs,λ_=>rfl,hf,hk,hm,hdf,fn,by rw [←hf];exact hfn,hr⟩
theorem row_gam2 (hbody:∃fn,P.funcs[f]? =some fn∧fn.body.isSome=true) {n c:Nat} {g:FuncId} {vs vs':List Value} (hc:∀(blk off c:Nat) (w:World),Holds id w blk off vs.toArray→blk<w.heap.size→
   Calls P f #[.slice (some ⟨blk,off,none⟩) n c, .func (.func g) #[] #[]] w λe w'=>e= .returned (.tuple #[])∧∃m os,w'=grow (putRow id (Sort.ahead w m) blk off vs'.toArray) os)
  {σ:CSt} {i off:Nat} {row:List Value} {e:TypeId} (hg:σ.get i=some (.cells row e false)) (hrow:(row.drop off).take vs.length=vs) (hle:off+vs.length≤row.length) (h0:n≠0) (hfl:∀v∈vs,qae v=true) (hfl':∀v∈vs',qae v=true) (hsl:vs'.length=vs.length)
  {Q:Out→CSt→Prop} (hq:Q (.ret (.tuple #[]) false) (σ.put i (.cells (row.take off++vs'++row.drop (off+vs.length)) e false))):qfe P f #[.slice (some ⟨i,off,none⟩) n c, .func (.func g) #[] #[]] none σ Q:=by
 refine⟨hbody,fun ρ w args' cs hR hA hd=> ?_⟩
 obtain⟨v,u,rfl⟩:∃v u,args'= #[v,u]:=qux hA.1.symm
 obtain⟨p,c',hp,rfl⟩:=qqh (hA.2 0 (by simp) (by simp)) h0
 obtain rfl:=qua (hA.2 1 (by simp) (by simp))
 obtain⟨a1,a2,a3⟩:=qvv hR hp hg hrow hle hfl hfl' hsl;obtain⟨e,w',fr,⟨rfl,m,os,rfl⟩,hs,hf,hm,hdf,hk,fn,hfn,hr⟩:=hc p.b (p.o+off) c' w a1 a2 cs;obtain⟨a4,a5⟩:=a3 m os;exact .inl ⟨.tuple #[],false,_,ρ,_,_,fr,hq,a4,a5, .junk _,hs,λ_=>rfl,hf,hk,hm,hdf,fn,by rw [←hf];exact hfn,hr⟩
theorem row_gam0 (hbody:∃fn,P.funcs[f]? =some fn∧fn.body.isSome=true) (hc:∀(p:Option Addr) (c:Nat) (w:World),Calls P f #[.slice p 0 c] w λe w'=>e= .returned (.tuple #[])∧w'=w)
  {p:Option Addr} {c:Nat} {σ:CSt} {Q:Out→CSt→Prop} (hq:Q (.ret (.tuple #[]) false) σ):qfe P f #[.slice p 0 c] none σ Q:=by
 refine⟨hbody,fun ρ w args' cs hR hA hd=> ?_⟩
 obtain⟨v,rfl⟩:∃v,args'= #[v]:=Array.size_eq_one_iff.1 hA.1.symm
 obtain⟨p',c',rfl⟩:=qn6 (hA.2 0 (by simp) (by simp))
 obtain⟨e,w',fr,⟨rfl,rfl⟩,hs,hf,hm,hdf,hk,fn,hfn,hr⟩:=hc p' c' w cs;exact .inl ⟨.tuple #[],false,σ,ρ,w',_,fr,hq,hR,FrmB.refl _ _ _ _, .junk _,hs,λ_=>rfl,hf,hk,hm,hdf,fn,by rw [←hf];exact hfn,hr⟩
theorem zb2 (hbody:∃fn,P.funcs[f]? =some fn∧fn.body.isSome=true) {g:FuncId} (hc:∀(p:Option Addr) (c:Nat) (w:World),Calls P f #[.slice p 0 c, .func (.func g) #[] #[]] w λe w'=>e= .returned (.tuple #[])∧w'=w)
  {p:Option Addr} {c:Nat} {σ:CSt} {Q:Out→CSt→Prop} (hq:Q (.ret (.tuple #[]) false) σ):qfe P f #[.slice p 0 c, .func (.func g) #[] #[]] none σ Q:=by
 refine⟨hbody,fun ρ w args' cs hR hA hd=> ?_⟩
 obtain⟨v,u,rfl⟩:∃v u,args'= #[v,u]:=qux hA.1.symm
 obtain⟨p',c',rfl⟩:=qn6 (hA.2 0 (by simp) (by simp))
 obtain rfl:=qua (hA.2 1 (by simp) (by simp))
 obtain⟨e,w',fr,⟨rfl,rfl⟩,hs,hf,hm,hdf,hk,fn,hfn,hr⟩:=hc p' c' w cs;exact .inl ⟨.tuple #[],false,σ,ρ,w',_,fr,hq,hR,FrmB.refl _ _ _ _, .junk _,hs,λ_=>rfl,hf,hk,hm,hdf,fn,by rw [←hf];exact hfn,hr⟩
end
end Go.Sm
namespace Go.Sm
open Go
set_option maxRecDepth 100000
set_option maxHeartbeats 4000000
def wr (c:List Value) (off:Nat) (vs:List Value):List Value:=c.take off++vs++c.drop (off+vs.length)
theorem qm9 {c:List Value} {off:Nat} {vs:List Value} (h:off+vs.length≤c.length):st c off vs=some (wr c off vs):=by simp [st,h,wr]
theorem qf7 {c:List Value} {off:Nat} {vs:List Value} (h:off+vs.length≤c.length):(wr c off vs).length=c.length:=by simp [wr];omega
theorem qpi {c:List Value} {off:Nat} {vs:List Value} (h:off+vs.length≤c.length) (k:Nat):(wr c off vs)[k]? =if k<off then c[k]? else if k<off+vs.length then vs[k-off]? else c[k]? :=by
 unfold wr;by_cases h1:k<off
 ·rw [if_pos h1,List.append_assoc,List.getElem?_append_left (by simp;omega),List.getElem?_take,if_pos h1]
 ·rw [if_neg h1];have hl:(c.take off).length=off:=by simp;omega
  by_cases h2:k<off+vs.length
  ·rw [if_pos h2,List.append_assoc,List.getElem?_append_right (by omega),hl,List.getElem?_append_left (by omega)]
  ·rw [if_neg h2,List.getElem?_append_right (by simp;omega)]
   simp only [List.length_append,hl,List.getElem?_drop]
   congr 1
   omega
@[simp] theorem qho (n:Nat) (z:List Value) (h:qc9 z=true):qc9 (List.replicate n z).flatten=true:=by
 induction n with
 |zero=>rfl
 |succ n ih=>rw [List.replicate_succ,List.flatten_cons,qcb,h,ih];rfl
section
variable {P:Program} {σ:CSt} {ev:Operand→Value} {dst:Option Tmp} {ty:TypeId} {pos:String} {after:Array Edge} {g:Option (Nat×Bool)}
def qj8 (σ:CSt):Option Addr→Nat→List Value→Option CSt
 |some ⟨i,off,none⟩,n,new=>if n=0 then some σ else match σ.get i with
  |some (.cells c e false)=>(st c off new).map λc'=>σ.put i (.cells c' e false)
  |_=>none
 |_,n,_=>if n=0 then some σ else none
def qo6:Option (TypeId×TF)→CSt→Value→Value→Option (Value×CSt)
 |some (_,f),σ, .slice base dl _,s=>
  match qea s with
  |some sl=>(qcz σ f.size (min sl dl) s).bind λnew=>if new.length=min sl dl*f.size∧qc9 new=true then(qj8 σ base (min sl dl) new).map fun σ'=>(.int .i64 (min sl dl:Nat),σ') else none
  |none=>none
 |_,_,_,_=>none
theorem qys (base:Option Addr) (n:Nat) (new:List Value):qj4 σ base n new=qj8 σ base n new:=by
 unfold qj4 qj8;by_cases h0:n=0
 ·simp only [h0,if_true];split<;>rfl
 ·simp only [h0,if_false];split
  ·rename_i i off;simp only [h0,if_false,CSt.cells];generalize σ.get i=o;cases o with
   |none=>rfl
   |some o=>
    cases o with
    |cells c e ro=>cases ro<;>rfl
    |_=>rfl
  ·rename_i h;split
   ·rename_i i off;exact absurd rfl (h _ _)
   ·rw [if_neg h0]
theorem qu9 {ts:Array TypeId} {d s:Value} (h:(ts[0]?.bind (qc6 P)).isSome=true):qmz P σ ts d s=qo6 (ts[0]?.bind (qc6 P)) σ d s:=by
 obtain⟨⟨e,f⟩,hf⟩:=Option.isSome_iff_exists.1 h;rw [hf];simp only [Option.bind_eq_some_iff] at hf;obtain⟨t,ht,hf⟩:=hf;obtain⟨inf,g1,g2,g3,g4⟩:=qca hf;unfold qmz;rw [ht];cases d with
 |slice base dl c=>
  cases hs:qea s with
  |none=>simp [qo6,hs]
  |some sl=>
   simp only [g1,qo6,hs,g2,qys];show(match qcz σ f.size (min sl dl) s with|some new=>_|none=>none)=_
   cases qcz σ f.size (min sl dl) s<;>rfl
 |_=>cases hs:qea s<;>rfl
def za1:Option Nat→Option Nat→Option Value
 |some l,some h=>if l≤h∧h≤0 then some (.slice none 0 0) else none
 |_,_=>none
@[simp] theorem sliceN_eq (l h:Nat):za1 (some l) (some h)=if l≤h∧h≤0 then some (.slice none 0 0) else none:=(rfl)
theorem qhs {t:TypeId} (he:(qc6 P t).isSome=true) (lo hi:Option Value):qd7 P σ t (.slice none 0 0) lo hi none=za1 (qai 0 lo) (qai 0 hi):=by
 obtain⟨⟨e,f⟩,hf⟩:=Option.isSome_iff_exists.1 he;obtain⟨inf,h1,h2,h3,h4⟩:=qca hf;have hb:qai 0 none=some 0:=rfl;simp only [qd7,h1,hb];generalize qai 0 hi=bh;cases qai 0 lo with
 |none=>cases bh<;>rfl
 |some l=>
  cases bh with
  |none=>rfl
  |some h=>simp [za1]
def appNK:Option (TypeId×TF)→CSt→Value→Int→Option (Value×CSt)
 |some (e,f),σ,s,n=>match f.zero with
  |some z=>if 0≤n∧n*f.bytes≤2^47∧z.length=f.size∧z.all qae=true then qau σ e f s n.toNat ((List.replicate n.toNat z).flatten) else none
  |none=>none
 |none,_,_,_=>none
theorem qmt (z:Array Value) (n:Nat):qbz z n=(List.replicate n z.toList).flatten:=qg6 z n
theorem qn9 {ts:Array TypeId} {s:Value} {k:IntKind} {n:Int} (h:(ts[0]?.bind (qc6 P)).isSome=true) (h':(ts[1]?.bind (intT P)).isSome=true):qas P σ ts s (.int k n)=appNK (ts[0]?.bind (qc6 P)) σ s n:=by
 obtain⟨⟨e,f⟩,hf⟩:=Option.isSome_iff_exists.1 h;obtain⟨e1,hf1⟩:=Option.isSome_iff_exists.1 h';rw [hf];simp only [Option.bind_eq_some_iff] at hf hf1;obtain⟨t,ht,hf⟩:=hf;obtain⟨u,hu,hf1⟩:=hf1;obtain⟨inf,g1,g2,g3,g4⟩:=qca hf;have hund:∃k,P.underlying u=some (.int k):=by
  unfold intT at hf1;split at hf1
  ·rename_i e2 h2;exact⟨_,h2⟩
  ·cases hf1
 obtain⟨k',hund⟩:=hund;simp only [qas,ht,hu,g1,hund,appNK];cases hz:inf.zero with
 |none=>
  rw [hz] at g4;simp only [Option.map_none] at g4;rw [←g4]
 |some z=>
  rw [hz] at g4;simp only [Option.map_some] at g4;rw [←g4];simp only [g2,g3,Array.length_toList];by_cases hc:0≤n∧n*(f.bytes:Int)≤2^47∧z.cells.size=f.size∧z.cells.toList.all qae=true
  ·rw [if_pos hc,if_pos hc,qnc g2 g3 (by rw [hz];exact g4),qmt]
  ·rw [if_neg hc,if_neg hc]
def capV (P:Program) (σ:CSt) (ts:Array TypeId) (fl:OpR):Value→OpR
 | .slice none 0 0=>if(ts[0]?.bind (qbo P)).isSome=true then .val (.int .i64 0) σ else fl
 | .slice (some ⟨i,off,none⟩) n k=>if k=qa1 then qpc P σ ts i off n else if(ts[0]?.bind (qbo P)).isSome=true then .val (.int .i64 k) σ else .fail
 |_=> .fail
@[simp] theorem capV_known (ts:Array TypeId) (fl:OpR) (i off n k:Nat) (hk:k≠qa1) (h:(ts[0]?.bind (qbo P)).isSome=true):capV P σ ts fl (.slice (some ⟨i,off,none⟩) n k)= .val (.int .i64 k) σ:=by simp [capV,h,hk]
theorem qna {ts:Array TypeId} (h:(ts[0]?.bind (qbo P)).isSome=true):∃t e,ts[0]? =some t∧P.underlying t=some (.slice e):=by
 cases ht:ts[0]? with
 |none=>rw [ht] at h;cases h
 |some t=>
  rw [ht] at h;obtain⟨e,he⟩:=qfw (show(qbo P t).isSome=true from h)
  exact⟨t,e,rfl,he⟩
@[simp] theorem callOp_capV {x:Operand} {ts:Array TypeId}:qbs P σ ev ⟨dst, .call ⟨.builtin .cap, #[x],ts⟩,ty,pos,after,g⟩ ⟨.builtin .cap, #[x],ts⟩=
  capV P σ ts (qbc P σ ev ⟨dst, .call ⟨.builtin .cap, #[x],ts⟩,ty,pos,after,g⟩) (ev x):=by
 have ha:(Array.map ev #[x]).toList= [ev x]:=by simp
 unfold capV;split
 ·rename_i hx;simp only [qbs,ha,hx];split
  ·rename_i h;obtain⟨t,e,ht,hu⟩:=qna h;have h1:qaq P (execOp ev ⟨dst, .call ⟨.builtin .cap, #[x],ts⟩,ty,pos,after,g⟩)=some (.value (.int .i64 0)):=by
    have h2:execOp ev ⟨dst, .call ⟨.builtin .cap, #[x],ts⟩,ty,pos,after,g⟩=(do pure (Next.value (←Builtin.cap_ ts ty #[.slice none 0 0])):Sem Next):=by
     simp only [execOp,resolve];have:(Array.map ev #[x])= #[.slice none 0 0]:=by simp [hx]
     simp only [this]
     rfl
    rw [h2,qii];have h3:qaq P (Builtin.cap_ ts ty #[.slice none 0 0])=some (.int .i64 0):=by
     simp [Builtin.cap_,ht,qac,qbl,hu,goInt]
    rw [h3]
    rfl
   simp only [qbc,Op.operands,Call.operands,h1];simp [hx]
  ·rfl
 ·rename_i i off n k hx;simp only [qbs,ha,hx];by_cases hk:k=qa1
  ·rw [if_pos hk,if_pos hk]
  ·rw [if_neg hk,if_neg hk];by_cases h:(ts[0]?.bind (qbo P)).isSome=true
   ·obtain⟨t,e,ht,hu⟩:=qna h;rw [if_pos h];simp only [ht,hu]
   ·rw [if_neg h];cases ht:ts[0]? with
    |none=>rfl
    |some t=>
     rw [ht] at h;simp only [Option.bind_some,qbo] at h;cases hu:P.underlying t with
     |none=>simp [hu]
     |some d=>
      cases d with
      |slice e=>rw [hu] at h;simp at h
      |_=>simp [hu]
 ·rename_i h1 h2;simp only [qbs,ha];split<;>simp_all
variable {E:Env}
theorem qum (x:Ctx) (a:CAct) (d:Option Tmp) (K:CAct→CSt→Prop) (Q:Out→CSt→Prop) {fv:Value} {args:Array Value} {v:Value} (h:qcr E fv args σ=some v):qls E x a d K Q σ (.call fv args)=K (a.put d v) σ:=by simp only [qls,h]
def qiz:Option (TypeId×TF)→CSt→Value→Option (Value×CSt)
 |some (_,f),σ, .slice (some ⟨i,off,none⟩) n _=>if n=0 then some (undef,σ) else
  match f.zero,σ.get i with
  |some z,some (.cells c e false)=>if z.length=f.size∧z.all qae=true then(st c off ((List.replicate n z).flatten)).map λc'=>(undef,σ.put i (.cells c' e false)) else none
  |_,_=>none
 |some _,σ, .slice none 0 0=>some (undef,σ)
 |_,_,_=>none
theorem qgy {ts:Array TypeId} {x:Value} (h:(ts[0]?.bind (qc6 P)).isSome=true):qjf P σ ts x=qiz (ts[0]?.bind (qc6 P)) σ x:=by
 obtain⟨⟨e,f⟩,hf⟩:=Option.isSome_iff_exists.1 h;rw [hf];simp only [Option.bind_eq_some_iff] at hf;obtain⟨t,ht,hf⟩:=hf;have hf0:=hf;unfold qc6 qbo at hf;unfold qjf;rw [ht];cases hu:P.underlying t with
 |none=>rw [hu] at hf;cases hf
 |some d=>
  cases d with
  |slice e0=>
   rw [hu] at hf;simp only [Option.bind_some,tf] at hf;cases hi:P.info? e0 with
   |none=>rw [hi] at hf;cases hf
   |some inf=>
    rw [hi] at hf;simp only [Option.map_some,Option.some.injEq,Prod.mk.injEq] at hf;obtain⟨rfl,rfl⟩:=hf;simp only [hu];cases x with
    |slice a n c=>
     cases a with
     |none=>
      cases n with
      |zero=>cases c<;>simp [qiz]
      |succ n=>simp [qiz]
     |some a=>
      obtain⟨i,off,sp⟩:=a;cases sp with
      |some s=>rfl
      |none=>
       simp only [qiz,hi,CSt.cells];split
       ·rfl
       ·generalize σ.get i=o;cases hz:inf.zero with
        |none=>
         cases o with
         |none=>simp [hz]
         |some o=>cases o with
          |cells c e ro=>cases ro<;>simp [hz]
          |_=>simp [hz]
        |some z=>
         cases o with
         |none=>simp
         |some o=>cases o with
          |cells c e ro=>
           cases ro with
           |true=>simp
           |false=>simp [hz,qmt]
          |_=>simp
    |_=>rfl
  |_=>rw [hu] at hf;cases hf
@[simp] theorem callOp_clear (o:Oper) (x:Operand) (ts:Array TypeId):qbs P σ ev o ⟨.builtin .clear, #[x],ts⟩=OpR.ofP (qjf P σ ts (ev x)):=by
 have:(Array.map ev #[x]).toList= [ev x]:=by simp
 simp only [qbs,this]
end
section
variable {sz a n:Nat} {row new:List Value}
theorem qjk (hl:new.length=sz) (ha:a≤n) (hn:n*sz≤row.length) (k:Nat):
  (qbh sz a n row new)[k]? =if k<a*sz then row[k]? else if k<a*sz+sz then new[k-a*sz]? else if k<n*sz+sz then row[k-sz]? else none:=by
 have h1:a*sz≤n*sz:=Nat.mul_le_mul_right _ ha;have hlen:(row.take (a*sz)).length=a*sz:=by simp;omega
 unfold qbh;by_cases c1:k<a*sz
 ·rw [if_pos c1,List.append_assoc,List.getElem?_append_left (by omega),List.getElem?_take,if_pos c1]
 ·rw [if_neg c1];by_cases c2:k<a*sz+sz
  ·rw [if_pos c2,List.append_assoc,List.getElem?_append_right (by omega),hlen,List.getElem?_append_left (by omega)]
  ·rw [if_neg c2,List.getElem?_append_right (by simp only [List.length_append,hlen];omega)]
   simp only [List.length_append,hlen,hl,List.getElem?_drop,List.getElem?_take];have e:a*sz+(k-(a*sz+sz))=k-sz:=by omega
   rw [e];by_cases c3:k<n*sz+sz
   ·rw [if_pos c3,if_pos (by omega)]
   ·rw [if_neg c3,if_neg (by omega)]
theorem qhb (hl:new.length=sz) (ha:a≤n) (hn:n*sz≤row.length):(qbh sz a n row new).length=n*sz+sz:=by
 have h1:a*sz≤n*sz:=Nat.mul_le_mul_right _ ha;simp only [qbh,List.length_append,List.length_take,List.length_drop,hl];omega
theorem insA (hl:new.length=sz) (hn:n*sz+sz≤row.length):qbh sz n n row new=(wr row (n*sz) new).take (qbh sz n n row new).length:=by
 rw [qhb hl (Nat.le_refl _) (by omega)]
 apply List.ext_getElem?;intro k;rw [qjk hl (Nat.le_refl _) (by omega),List.getElem?_take,qpi (by omega),hl]
 by_cases c1:k<n*sz
 ·rw [if_pos c1,if_pos (by omega),if_pos c1]
 ·rw [if_neg c1];by_cases c2:k<n*sz+sz
  ·rw [if_pos c2,if_pos c2,if_neg c1,if_pos c2]
  ·rw [if_neg c2,if_neg c2,if_neg c2]
theorem insB (hl:new.length=sz) (hn:n*sz≤row.length):qbh sz n n row new=(row.take (n*sz)++new).take (qbh sz n n row new).length:=by
 rw [qhb hl (Nat.le_refl _) hn];have:qbh sz n n row new=row.take (n*sz)++new:=by simp [qbh]
 have hl2:(row.take (n*sz)).length=n*sz:=by simp;omega
 rw [this];exact(List.take_of_length_le (by rw [List.length_append,hl2,hl];exact Nat.le_refl _)).symm
theorem qzo {l m:Nat} (k:Nat):((row.drop l).take m)[k]? =if k<m then row[l+k]? else none:=by rw [List.getElem?_take,List.getElem?_drop]
theorem insC {z:List Value} (hl:new.length=sz) (ha:a<n) (hn:n*sz≤row.length) (hz:z.length=n*sz+sz-a*sz):
  qbh sz a n row new=(wr (wr (row.take (a*sz)++z) (a*sz) new) (a*sz+sz) ((row.drop (a*sz)).take (n*sz-a*sz))).take (qbh sz a n row new).length:=by
 have h1:a*sz+sz≤n*sz:=by have:=Nat.mul_le_mul_right sz ha;rw [Nat.succ_mul] at this;exact this
 have h2:(row.take (a*sz)).length=a*sz:=by simp;omega
 have h3:a*sz+new.length≤(row.take (a*sz)++z).length:=by simp only [List.length_append,h2];omega
 have h4:((row.drop (a*sz)).take (n*sz-a*sz)).length=n*sz-a*sz:=by simp;omega
 rw [qhb hl (by omega) hn]
 apply List.ext_getElem?;intro k;rw [qjk hl (by omega) hn,List.getElem?_take,qpi (by rw [qf7 h3];simp only [List.length_append,h2,h4];omega),qpi h3,hl,h4,qzo]
 by_cases c1:k<a*sz
 ·rw [if_pos c1,if_pos (by omega),if_pos (by omega),if_pos c1,List.getElem?_append_left (by omega),List.getElem?_take,if_pos c1]
 ·rw [if_neg c1];by_cases c2:k<a*sz+sz
  ·rw [if_pos c2,if_pos (by omega),if_pos c2,if_neg c1,if_pos c2]
  ·rw [if_neg c2];by_cases c3:k<n*sz+sz
   ·rw [if_pos c3,if_pos c3,if_neg c2,if_pos (by omega),if_pos (by omega)]
    congr 1
    omega
   ·rw [if_neg c3,if_neg c3]
theorem insD (hl:new.length=sz) (ha:a<n) (hn:n*sz+sz≤row.length):
  qbh sz a n row new=(wr (wr row (a*sz+sz) ((row.drop (a*sz)).take (n*sz-a*sz))) (a*sz) new).take (qbh sz a n row new).length:=by
 have h1:a*sz+sz≤n*sz:=by have:=Nat.mul_le_mul_right sz ha;rw [Nat.succ_mul] at this;exact this
 have h4:((row.drop (a*sz)).take (n*sz-a*sz)).length=n*sz-a*sz:=by simp;omega
 have h3:a*sz+sz+((row.drop (a*sz)).take (n*sz-a*sz)).length≤row.length:=by rw [h4];omega
 rw [qhb hl (by omega) (by omega)]
 apply List.ext_getElem?;intro k;rw [qjk hl (by omega) (by omega),List.getElem?_take,qpi (by rw [qf7 h3];omega),qpi h3,hl,h4,qzo]
 by_cases c1:k<a*sz
 ·rw [if_pos c1,if_pos (by omega),if_pos c1,if_pos (by omega)]
 ·rw [if_neg c1];by_cases c2:k<a*sz+sz
  ·rw [if_pos c2,if_pos (by omega),if_neg c1,if_pos c2]
  ·rw [if_neg c2];by_cases c3:k<n*sz+sz
   ·rw [if_pos c3,if_pos c3,if_neg c1,if_neg c2,if_neg c2,if_pos (by omega),if_pos (by omega)]
    congr 1
    omega
   ·rw [if_neg c3,if_neg c3]
end
theorem i64n (a:Nat) (h:a<2^62):IntKind.i64.wrap (a:Int)=a:=IntWalk.i64_in _ (by omega)
theorem qb7 (a:Nat) (h:a<2^61):IntKind.i64.wrap ((a:Int)+1)=((a+1:Nat):Int):=by rw [IntWalk.i64_in _ (by omega)];omega
theorem qqo {e i oi ni ci j oj nj cj:Nat} {σ:CSt} {c d:List Value} {ed:TypeId} (hne:i≠j) (hi:σ.get i=some (.cells c e false)) (hj:σ.get j=some (.cells d ed false)) (hd:0<d.length):
  qmu e #[.slice (some ⟨i,oi,none⟩) ni ci, .slice (some ⟨j,oj,none⟩) nj cj] σ=some (.bool false):=by
 cases d with
 |nil=>simp at hd
 |cons x d=>simp [qmu,hne,hi,hj]
end Go.Sm
namespace Go.Sm
open Go Go.WideShapes Go.ChangeShapes
set_option maxRecDepth 100000
set_option maxHeartbeats 4000000
inductive PK where
 |int (k:IntKind)
 |bool
 |str
def okK:PK→Value→Prop
 | .int k,v=>∃n,v= .int k n∧(Lit.int k n).wf=true
 | .bool,v=>∃b,v= .bool b
 | .str,v=>∃s:ByteArray,v= .string s∧s.size≤maxLen
def OkL:List PK→List Value→Prop
 | [], []=>True
 |k::ks,v::vs=>okK k v∧OkL ks vs
 |_,_=>False
theorem OkL.length:∀{ks:List PK} {vs:List Value},OkL ks vs→vs.length=ks.length
 | [], [],_=>rfl
 |_::ks,_::vs,h=>by simp [OkL.length h.2]
theorem OkL.append:∀{ks ls:List PK} {vs ws:List Value},OkL ks vs→OkL ls ws→OkL (ks++ls) (vs++ws)
 | [],_, [],_,_,h=>h
 |_::_,_,_::_,_,h,k=>⟨h.1,OkL.append h.2 k⟩
theorem okK.flat {k:PK} {v:Value} (h:okK k v):qae v=true:=by
 cases k with
 |int k=>obtain⟨n,rfl,_⟩:=h;rfl
 |bool=>obtain⟨b,rfl⟩:=h;rfl
 |str=>obtain⟨s,rfl,_⟩:=h;rfl
theorem OkL.flat:∀{ks:List PK} {vs:List Value},OkL ks vs→∀v∈vs,qae v=true
 | [], [],_=>by simp
 |_::ks,_::vs,h=>λv hv=>by
  rcases List.mem_cons.1 hv with rfl|hv
  ·exact h.1.flat
  ·exact OkL.flat h.2 v hv
def qk3 (P:Program) (g:TypeId→Option (List PK)):List Field→Nat→Option (List PK)
 | [],_=>some []
 |fl::l,off=>
  if fl.offset=off then
   match g fl.type with
   |some ks=>if ks.length=P.cellsOf fl.type then(qk3 P g l (off+ks.length)).map (ks++·) else none
   |none=>none
  else none
def qek (P:Program):Nat→TypeId→Option (List PK)
 |0,_=>none
 |f+1,t=>
  match P.underlying t with
  |some (.int k)=>some [.int k]
  |some .bool=>some [.bool]
  |some .string=>some [.str]
  |some (.struct fs)=>match qk3 P (qek P f) fs.toList 0 with|some ks=>if ks.length=P.cellsOf t then some ks else none|none=>none
  |_=>none
section
variable {H:Type} {enc:TypeId×Value→H} {P:Program} {w:World} {base:Nat} {spare:Nat→Bool} {held:Bool}
theorem qrf {g:TypeId→Option (List PK)} {fuel:Nat} {cs:List Value} (hg:∀t ks,g t=some ks→∀cs x,DataW.trod enc P w base spare held fuel t cs=some x→OkL ks cs):
  ∀(l:List Field) (off:Nat) (ks:List PK),qk3 P g l off=some ks→(∀fl∈l,∃x,DataW.trod enc P w base spare held fuel fl.type ((cs.drop fl.offset).take (P.cellsOf fl.type))=some x)→off+ks.length=cs.length→OkL ks (cs.drop off)
 | [],off,ks,h,_,hl=>by
  simp only [qk3,Option.some.injEq] at h;subst h;rw [List.drop_of_length_le (by simpa using Nat.le_of_eq hl.symm)]
  trivial
 |fl::l,off,ks,h,hx,hl=>by
  unfold qk3 at h;split at h
  ·rename_i ho;split at h
   ·rename_i k1 hk1;split at h
    ·rename_i hc;rw [Option.map_eq_some_iff] at h;obtain⟨k2,h2,rfl⟩:=h;obtain⟨x,hx1⟩:=hx fl (by simp)
     have a1:=hg _ _ hk1 _ _ hx1;rw [ho,←hc] at a1;have a2:=qrf hg l (off+k1.length) k2 h2 (λf hf=>hx f (by simp [hf])) (by simp at hl;omega)
     have:cs.drop off=(cs.drop off).take k1.length++cs.drop (off+k1.length):=by
      rw [←List.drop_drop,List.take_append_drop]
     rw [this];exact a1.append a2
    ·cases h
   ·cases h
  ·cases h
theorem qnb:∀(f:Nat) (t:TypeId) (ks:List PK),qek P f t=some ks→∀(fuel:Nat) (cs:List Value) (x:DataW H×List MemPlace),DataW.trod enc P w base spare held fuel t cs=some x→OkL ks cs
 |0,_,_,h,_,_,_,_=>by cases h
 |f+1,t,ks,h,fuel,cs,x,hx=>by
  unfold qek at h;cases hu:P.underlying t with
  |none=>rw [hu] at h;cases h
  |some d=>
   rw [hu] at h;cases d with
   |int k=>
    cases h;obtain⟨n,rfl,_,hw⟩:=DataW.trod_int hu hx;exact⟨⟨n,rfl,hw⟩,trivial⟩
   |bool=>
    cases h;obtain⟨b,rfl,_⟩:=DataW.trod_bool hu hx;exact⟨⟨b,rfl⟩,trivial⟩
   |string=>
    cases h;obtain⟨s,rfl,_,hs⟩:=DataW.trod_string hu hx;exact⟨⟨s,rfl,hs⟩,trivial⟩
   |struct fs=>
    simp only at h;split at h
    ·rename_i k1 hk1;split at h
     ·rename_i hc;cases h;obtain⟨xs,n,rfl,_,hlen,hxl,hf⟩:=DataW.trod_struct hu hx;have:=qrf (cs:=cs) (fuel:=n) (λt ks ht cs x hx=>qnb f t ks ht n cs x hx) fs.toList 0 ks hk1 (λfl hfl=> ?_) (by omega)
      ·simpa using this
      ·obtain⟨i,hi,rfl⟩:=List.mem_iff_getElem.1 hfl;have h1:=hf i fs.toList[i] (by simp at hi⊢)
       have:i<xs.length:=by simpa [hxl] using hi
       rw [List.getElem?_eq_getElem this] at h1;exact⟨_,h1⟩
     ·cases h
    ·cases h
   |_=>cases h
theorem zaj {t e:TypeId} {f fuel:Nat} {ks:List PK} {cs:List Value} {x:DataW H×List MemPlace} (ht:P.underlying t=some (.slice e)) (hk:qek P f e=some ks) (hc:P.cellsOf e=ks.length)
  (h:DataW.trod enc P w base spare held fuel t cs=some x):
  cs= [.slice none 0 0]∨∃(a:Addr) (len cap:Nat) (rows:List (List Value)),cs= [.slice (some a) len cap]∧len≤cap∧cap≤maxLen∧rows.length=len∧(∀r∈rows,OkL ks r)∧
   ∀i j,i<len→j<ks.length→∃v,(rows.flatten)[i*ks.length+j]? =some v∧w.cell? ((a.add (i*ks.length)).add j)=some v:=by
 rcases DataW.trod_slice ht h with⟨h0,_⟩|⟨a,len,cap,elems,rest,n,_,rfl,rfl,hb,hl,hm,hlen,hel,hsp,hns⟩
 ·exact .inl h0
 refine .inr ⟨a,len,cap, ?_⟩;have each:∀i,i<len→∃r,w.cells? base (a.add (i*ks.length)) ks.length=some r∧OkL ks r:=by
  intro i hi;have:=hel i hi;rw [List.getElem?_eq_getElem (by omega),Option.bind_eq_some_iff] at this
  obtain⟨r,h1,h2⟩:=this;rw [hc] at h1;exact⟨r,h1,qnb f e ks hk n r _ h2⟩
 let row:Nat→List Value:=λi=>if hi:i<len then(each i hi).choose else []
 have hrow:∀i (hi:i<len),w.cells? base (a.add (i*ks.length)) ks.length=some (row i)∧OkL ks (row i):=λi hi=>by
  simp only [row,hi,dif_pos];exact(each i hi).choose_spec
 have hrl:∀i,i<len→(row i).length=ks.length:=λi hi=>(hrow i hi).2.length
 refine⟨(List.range len).map row,rfl,hl,hm,by simp,λr hr=> ?_,λi j hi hj=> ?_⟩
 ·simp only [List.mem_map,List.mem_range] at hr;obtain⟨i,hi,rfl⟩:=hr;exact(hrow i hi).2
 ·have hflat:∀(m:Nat),m≤len→(((List.range len).map row).flatten)[i*ks.length+j]? =((List.range len).map row).flatten[i*ks.length+j]? :=λ_ _=>rfl
  have key:(((List.range len).map row).flatten)[i*ks.length+j]? =(row i)[j]? :=by
   have e1:(List.range len).map row=(List.range len).map row:=rfl;have gen:∀(l:List (List Value)) (i:Nat),(∀r∈l,r.length=ks.length)→(hi:i<l.length)→l.flatten[i*ks.length+j]? =(l[i])[j]? :=by
    intro l
    induction l with
    |nil=>intro i _ hi;simp at hi
    |cons r l ih=>
     intro i hr hi;cases i with
     |zero=>
      simp only [List.flatten_cons,Nat.zero_mul,Nat.zero_add,List.getElem_cons_zero];rw [List.getElem?_append_left (by rw [hr r (by simp)];exact hj)]
     |succ i=>
      simp only [List.flatten_cons,List.getElem_cons_succ];rw [List.getElem?_append_right (by rw [hr r (by simp),Nat.add_mul];omega),hr r (by simp)]
      have:(i+1)*ks.length+j-ks.length=i*ks.length+j:=by rw [Nat.add_mul];omega
      rw [this];exact ih i (λr h=>hr r (by simp [h])) (by simpa using hi)
   rw [gen _ i (λr hr=>by
    simp only [List.mem_map,List.mem_range] at hr;obtain⟨i,hi,rfl⟩:=hr
    exact hrl i hi) (by simpa using hi)]
   simp
  rw [key];have hlt:j<(row i).length:=by rw [hrl i hi];exact hj
  refine⟨(row i)[j],List.getElem?_eq_getElem hlt, ?_⟩;have:=(World.cells?_some (hrow i hi).1).2.2 j hj;rw [this,List.getElem?_eq_getElem hlt]
end
end Go.Sm
namespace Go.Sm
open Go
set_option maxRecDepth 100000
set_option maxHeartbeats 4000000
def Sl {α:Type} (σ:CSt) (e:TypeId) (sz:Nat) (enc:α→List Value) (v:Value) (l:List α):Prop:=
 (v= .slice none 0 0∧l= [])∨∃i off cap row ro,v= .slice (some ⟨i,off,none⟩) l.length cap∧σ.get i=some (.cells row e ro)∧i<σ.n∧(row.drop off).take (l.length*sz)=l.flatMap enc∧off+l.length*sz≤row.length∧
  (cap=qa1∨(l.length≤cap∧cap<qa1))
section
variable {α:Type} {σ σ':CSt} {e:TypeId} {sz:Nat} {enc:α→List Value} {v:Value} {l:List α}
theorem Sl.nil:Sl σ e sz enc (.slice none 0 0) ([]:List α):= .inl ⟨rfl,rfl⟩
theorem Sl.grow (h:Sl σ e sz enc v l) (hg:Grow σ σ'):Sl σ' e sz enc v l:=by
 rcases h with h|⟨i,off,cap,row,ro,h1,h2,h3,h4⟩
 ·exact .inl h
 ·exact .inr ⟨i,off,cap,row,ro,h1,hg.get h2 h3,Nat.lt_of_lt_of_le h3 hg.n,h4⟩
theorem Sl.all {i cap:Nat} {ro:Bool} (hsz:∀x,(enc x).length=sz) (hg:σ.get i=some (.cells (l.flatMap enc) e ro)) (hi:i<σ.n) (hc:cap=qa1∨(l.length≤cap∧cap<qa1)):Sl σ e sz enc (.slice (some ⟨i,0,none⟩) l.length cap) l:=by
 have:=qa5 enc hsz l;exact .inr ⟨i,0,cap,_,ro,rfl,hg,hi,by rw [List.drop_zero,List.take_of_length_le (by omega)],by omega,hc⟩
theorem Sl.form (h:Sl σ e sz enc v l):∃p c,v= .slice p l.length c:=by
 rcases h with⟨rfl,rfl⟩|⟨i,off,cap,row,ro,rfl,_⟩
 ·exact⟨_,_,rfl⟩
 ·exact⟨_,_,rfl⟩
theorem Sl.at {p:Option Addr} {n c:Nat} (h:Sl σ e sz enc (.slice p n c) l) {k:Nat} (hk:k<l.length):∃i off row ro,p=some ⟨i,off,none⟩∧σ.get i=some (.cells row e ro)∧i<σ.n∧(row.drop off).take (l.length*sz)=l.flatMap enc∧off+l.length*sz≤row.length:=by
 rcases h with⟨h1,rfl⟩|⟨i,off,cap,row,ro,h1,h2,h3,h4,h5,_⟩
 ·simp at hk
 ·cases h1;exact⟨i,off,row,ro,rfl,h2,h3,h4,h5⟩
theorem qam (hsz:∀x,(enc x).length=sz) {row:List Value} {off:Nat} (h:(row.drop off).take (l.length*sz)=l.flatMap enc) (k:Nat) (hk:k<l.length):(row.drop (off+k*sz)).take sz=enc l[k]:=by
 have:=enc_get enc hsz l k hk;rw [←h] at this;rw [←this,List.drop_take,List.drop_drop,List.take_take]
 congr 1
 have:(k+1)*sz≤l.length*sz:=Nat.mul_le_mul_right _ hk;rw [Nat.succ_mul] at this;omega
theorem qbe {row:List Value} {off:Nat} (h:off+l.length*sz≤row.length) (k:Nat) (hk:k<l.length):off+k*sz+sz≤row.length:=by
 have:(k+1)*sz≤l.length*sz:=Nat.mul_le_mul_right _ hk;rw [Nat.succ_mul] at this;omega
theorem qb2 (hsz:∀x,(enc x).length=sz) {row:List Value} {off:Nat} (h:(row.drop off).take (l.length*sz)=l.flatMap enc) (k j:Nat) (hk:k<l.length) (hj:j<sz):row[off+k*sz+j]? =(enc l[k])[j]? :=by
 have:=congrArg (·[j]?) (qam hsz h k hk)
 simp only [List.getElem?_take,hj,if_true,List.getElem?_drop] at this;exact this
theorem qop (hsz:∀x,(enc x).length=sz) {row:List Value} {off:Nat} (h:(row.drop off).take (l.length*sz)=l.flatMap enc) (k:Nat) (hk:k≤l.length):(row.drop (off+k*sz)).take ((l.drop k).length*sz)=(l.drop k).flatMap enc:=by
 rw [←qks enc hsz,←h,List.drop_take,List.drop_drop,List.length_drop,Nat.sub_mul]
theorem row_take (hsz:∀x,(enc x).length=sz) {row:List Value} {off:Nat} (h:(row.drop off).take (l.length*sz)=l.flatMap enc) (k:Nat) (hk:k≤l.length):(row.drop off).take ((l.take k).length*sz)=(l.take k).flatMap enc:=by
 rw [←qkj enc hsz,←h,List.take_take,List.length_take]
 congr 1
 rw [Nat.min_eq_left hk];exact(Nat.min_eq_left (Nat.mul_le_mul_right _ hk)).symm
end
def Own {α:Type} (b:Nat) (σ:CSt) (e:TypeId) (enc:α→List Value) (v:Value) (l:List α):Prop:=
 (v= .slice none 0 0∧l= [])∨∃i cap,v= .slice (some ⟨i,0,none⟩) l.length cap∧b≤i∧i<σ.n∧σ.get i=some (.cells (l.flatMap enc) e false)∧(cap=qa1∨(l= []∧cap=0))
section
variable {α:Type} {σ σ':CSt} {e:TypeId} {sz:Nat} {enc:α→List Value} {v:Value} {l:List α} {b:Nat}
theorem Own.nil:Own b σ e enc (.slice none 0 0) ([]:List α):= .inl ⟨rfl,rfl⟩
theorem Own.sl (hsz:∀x,(enc x).length=sz) (h:Own b σ e enc v l):Sl σ e sz enc v l:=by
 rcases h with h|⟨i,cap,rfl,hb,hi,hg,hc⟩
 ·exact .inl h
 ·refine Sl.all hsz hg hi ?_;rcases hc with rfl|⟨rfl,rfl⟩
  ·exact .inl rfl
  ·exact .inr ⟨by simp,by simp [qa1]⟩
theorem Own.grow (h:Own b σ e enc v l) (hg:Grow σ σ'):Own b σ' e enc v l:=by
 rcases h with h|⟨i,cap,h1,hb,hi,h2,h3⟩
 ·exact .inl h
 ·exact .inr ⟨i,cap,h1,hb,Nat.lt_of_lt_of_le hi hg.n,hg.get h2 hi,h3⟩
theorem Own.keep (h:Own b σ e enc v l) (hn:σ.n≤σ'.n) (hg:∀i,b≤i→i<σ.n→σ'.get i=σ.get i):Own b σ' e enc v l:=by
 rcases h with h|⟨i,cap,h1,hb,hi,h2,h3⟩
 ·exact .inl h
 ·exact .inr ⟨i,cap,h1,hb,Nat.lt_of_lt_of_le hi hn,by rw [hg i hb hi];exact h2,h3⟩
theorem Own.put (h:Own b σ e enc v l) {i:Nat} (hi:i<b) (o:CObj):Own b (σ.put i o) e enc v l:=
 h.keep (Nat.le_refl _) λj hj _=>by rw [CSt.get_put,if_neg (by omega)]
theorem Own.weaken {b':Nat} (h:Own b σ e enc v l) (hb:b'≤b):Own b' σ e enc v l:=by
 rcases h with h|⟨i,cap,h1,hb',h2⟩
 ·exact .inl h
 ·exact .inr ⟨i,cap,h1,Nat.le_trans hb hb',h2⟩
theorem qn0 (hsz:∀x,(enc x).length=sz) (a:Nat) (ha:a≤l.length) (x:α):qbh sz a l.length (l.flatMap enc) (enc x)=(l.take a++x::l.drop a).flatMap enc:=by
 have:=qa5 enc hsz l;unfold qbh;rw [List.take_of_length_le (Nat.le_of_eq this),qkj enc hsz,qks enc hsz];simp
theorem qdz (hc:∀x,qc9 (enc x)=true) (l:List α):qc9 (l.flatMap enc)=true:=by
 induction l with
 |nil=>rfl
 |cons x l ih=>rw [List.flatMap_cons,qcb,hc,ih];rfl
def qbx (b:Nat) (σ σ':CSt):Prop:=σ.n≤σ'.n∧∀i,i<b→σ'.get i=σ.get i
theorem qbx.refl (b:Nat) (σ:CSt):qbx b σ σ:=⟨Nat.le_refl _,λ_ _=>rfl⟩
theorem qbx.trans {a b c:CSt} {k:Nat} (h:qbx k a b) (h':qbx k b c):qbx k a c:=⟨Nat.le_trans h.1 h'.1,λi hi=>(h'.2 i hi).trans (h.2 i hi)⟩
theorem Grow.toB {a b:CSt} {k:Nat} (h:Grow a b) (hk:k≤a.n):qbx k a b:=⟨h.n,λi hi=>h.old i (Nat.lt_of_lt_of_le hi hk)⟩
theorem Grow.thenB {a b c:CSt} {k:Nat} (h:Grow a b) (h':qbx k b c) (hk:a.n≤k):Grow a c:=⟨Nat.le_trans h.n h'.1,λi hi=>(h'.2 i (Nat.lt_of_lt_of_le hi hk)).trans (h.old i hi)⟩
theorem qbx.alloc {a b:CSt} {k:Nat} (h:qbx k a b) (hk:k≤b.n) (o:CObj):qbx k a (b.alloc o):=⟨by have:=h.1;simp;omega,λi hi=>by rw [CSt.get_alloc,if_neg (by omega)];exact h.2 i hi⟩
theorem qbx.put {a b:CSt} {k i:Nat} (h:qbx k a b) (hi:k≤i) (o:CObj):qbx k a (b.put i o):=⟨h.1,λj hj=>by rw [CSt.get_put,if_neg (by omega)];exact h.2 j hj⟩
end
structure Cut {α:Type} (ord:α→Int) (l:List α) (k:Nat):Prop where
 le:k≤l.length
 lo:∀j (h:j<l.length),j<k→ord l[j]<0
 hi:∀j (h:j<l.length),k≤j→0≤ord l[j]
section
variable {α:Type} {P:Program} {σ:CSt} {e:TypeId} {sz b:Nat} {enc:α→List Value} {v x:Value} {l m:List α} {f:TF} {ts:Array TypeId}
theorem qil (hsz:∀x,(enc x).length=sz) (h:Sl σ e sz enc x m):qea x=some m.length∧qcz σ sz m.length x=some (m.flatMap enc):=by
 rcases h with⟨rfl,rfl⟩|⟨i,off,cap,row,ro,rfl,hg,hi,hrow,hlen,hcap⟩
 ·exact⟨rfl,rfl⟩
 ·refine⟨rfl, ?_⟩;rw [qxf,hg];simp only [qsb,ld,if_pos hlen,hrow]
end
end Go.Sm
