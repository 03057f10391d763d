/- Part C of the proof. -/
import Derived.Sort.Walk0
import Derived.Shelf.SlSortCmp.Insertion
import Derived.Sort.AssemblyPlain
import Derived.Lib.ItoaNum
import Derived.Test.YtmdielggbailgaaGreatDoorProg
import Derived.KernelRfl
import Derived.ProofKit
import Derived.Carry
import Derived.Shelf.Strings.Repeat
import Derived.Test.YtmdielggbailgaaGreatDoorPartB
set_option linter.unusedVariables false
set_option linter.unusedSimpArgs false
namespace Go.Sm
open Go
set_option maxRecDepth 100000
set_option maxHeartbeats 4000000
section
variable {α:Type} {P:Program} {σ:CSt} {e:TypeId} {sz b:Nat} {enc:α→List Value} {v x:Value} {l m:List α} {f:TF} {ts:Array TypeId}
theorem qwq (hf:ts[0]?.bind (qc6 P)=some (e,f)) (hu:(ts[1]?.bind (qbo P)).isSome=true) (hsz:∀x,(enc x).length=sz) (hc:∀x,qc9 (enc x)=true) (hfs:f.size=sz) (h0:0<sz) (h1:0<f.bytes) (h2:f.zero.map List.length=some sz)
  {g:Nat} {zs:List Value} (hg:σ.get g=some (.cells (l.flatMap enc++zs) e false)) (hx:Sl σ e sz enc x m) (hz:m.length*sz≤zs.length) (hl:l.length<2^62):
  ∃σ',qas P σ ts (.slice (some ⟨g,0,none⟩) l.length qa1) x=some (.slice (some ⟨g,0,none⟩) (l++m).length qa1,σ')∧σ'.get g=some (.cells ((l++m).flatMap enc++zs.drop (m.length*sz)) e false)∧σ'.n=σ.n∧∀j,j≠g→σ'.get j=σ.get j:=by
 obtain⟨g1,g2⟩:=qil hsz hx;have hml:=qa5 enc hsz m;have hll:=qa5 enc hsz l;rw [qat (by rw [hf];rfl) hu,hf]
 simp only [qhk,g1,hfs,g2,Option.bind_some];have hcond:(m.flatMap enc).length=m.length*f.size∧qc9 (m.flatMap enc)=true∧0<f.size∧0<f.bytes∧f.zero.map List.length=some f.size:=by
  rw [hfs];exact⟨hml,qdz hc m,h0,h1,h2⟩
 unfold qau;rw [if_pos hcond];by_cases hm:m.length=0
 ·have:m= []:=List.eq_nil_of_length_eq_zero hm;subst this;refine⟨σ, ?_,by simpa using hg,rfl,λ_ _=>rfl⟩
  simp only [List.length_nil,if_true,List.append_nil];rw [if_pos (by simp only [qa1];omega)]
 ·refine⟨σ.put g (.cells ((l++m).flatMap enc++zs.drop (m.length*sz)) e false), ?_,by simp,rfl,λj hj=>by rw [CSt.get_put,if_neg hj]⟩
  simp only [hm,if_false,hg,if_true,and_self];have hle:0+(l.length+m.length)*f.size≤(l.flatMap enc++zs).length:=by
   rw [List.length_append,hll,hfs,Nat.add_mul];omega
  rw [if_pos hle];have hst:st (l.flatMap enc++zs) (0+l.length*f.size) (m.flatMap enc)=some ((l++m).flatMap enc++zs.drop (m.length*sz)):=by
   unfold st;rw [if_pos (by rw [List.length_append,hll,hml,hfs];omega),hfs,Nat.zero_add,←hll,List.take_left,←List.drop_drop,List.drop_left,hml,List.flatMap_append]
  rw [hst];simp
end
section
variable {P:Program} {σ:CSt} {ev:Operand→Value} {dst:Option Tmp} {ty:TypeId} {pos:String} {after:Array Edge} {g:Option (Nat×Bool)}
@[simp] theorem copE_makeFunc (f:FuncId) (first captured:Array Operand):cop P σ ev ⟨dst, .makeFunc (.func f) first captured,ty,pos,after,g⟩= .val (.func (.func f) (first.map ev) (captured.map ev)) σ:=(rfl)
end
def Fr (T:TypeId→Prop) (b:Nat) (σ σ':CSt):Prop:=σ.n≤σ'.n∧∀j,j<σ.n→(j<b∨∀row e ro,σ.get j=some (.cells row e ro)→¬T e)→σ'.get j=σ.get j
section
variable {T T':TypeId→Prop} {b b':Nat} {s0 s1 s2:CSt}
theorem Fr.refl (T:TypeId→Prop) (b:Nat) (σ:CSt):Fr T b σ σ:=⟨Nat.le_refl _,λ_ _ _=>rfl⟩
theorem Grow.fr (h:Grow s0 s1):Fr T b s0 s1:=⟨h.n,λj hj _=>h.old j hj⟩
theorem Fr.trans (h:Fr T b s0 s1) (h':Fr T b s1 s2):Fr T b s0 s2:=
 ⟨Nat.le_trans h.1 h'.1,λj hj hc=>by rw [h'.2 j (Nat.lt_of_lt_of_le hj h.1) (by rw [h.2 j hj hc];exact hc),h.2 j hj hc]⟩
theorem Fr.alloc (h:Fr T b s0 s1) (o:CObj):Fr T b s0 (s1.alloc o):=h.trans ((Grow.refl s1).alloc o).fr
theorem Fr.put (h:Fr T b s0 s1) {i:Nat} (hi:b≤i) {row:List Value} {e:TypeId} {ro:Bool} (hg:s1.get i=some (.cells row e ro)) (ht:T e) (o:CObj):Fr T b s0 (s1.put i o):=
 h.trans ⟨Nat.le_refl _,λj hj hc=>by
  rw [CSt.get_put];by_cases e':j=i
  ·subst e';rcases hc with hc|hc
   ·omega
   ·exact absurd ht (hc _ _ _ hg)
  ·rw [if_neg e']⟩
theorem Fr.get (h:Fr T b s0 s1) {i:Nat} {o:CObj} (hg:s0.get i=some o) (hi:i<s0.n) (hc:i<b∨∀row e ro,o= .cells row e ro→¬T e):s1.get i=some o:=by
 rw [h.2 i hi (hc.elim .inl λhc=> .inr λrow e ro h1=>hc row e ro (by rw [hg] at h1;exact Option.some.inj h1)),hg]
variable {α:Type} {e:TypeId} {sz:Nat} {enc:α→List Value} {v:Value} {l:List α}
theorem Sl.fr (h:Sl s0 e sz enc v l) (ht:¬T e) (hg:Fr T b s0 s1):Sl s1 e sz enc v l:=by
 rcases h with h|⟨i,off,cap,row,ro,h1,h2,h3,h4⟩
 ·exact .inl h
 ·exact .inr ⟨i,off,cap,row,ro,h1,hg.get h2 h3 (.inr λrow' e' ro' he=>by cases he;exact ht),Nat.lt_of_lt_of_le h3 hg.1,h4⟩
end
section
variable {P:Program} {σ:CSt} {ev:Operand→Value} {dst:Option Tmp} {ty:TypeId} {pos:String} {after:Array Edge} {g:Option (Nat×Bool)}
def nilK (σ:CSt):Value→OpR
 | .pointer (some a)=> .val (.pointer (some a)) σ
 | .func (.func f) fs cs=> .val (.func (.func f) fs cs) σ
 | .func (.yield f) fs cs=> .val (.func (.yield f) fs cs) σ
 | .iface t v=> .val (.iface t v) σ
 |_=> .fail
@[simp] theorem copE_nilCheck (x:Operand):cop P σ ev ⟨dst, .nilCheck x,ty,pos,after,g⟩=nilK σ (ev x):=(rfl)
@[simp] theorem nilK_ptr (a:Addr):nilK σ (.pointer (some a))= .val (.pointer (some a)) σ:=(rfl)
@[simp] theorem nilK_fn (f:FuncId) (fs cs:Array Value):nilK σ (.func (.func f) fs cs)= .val (.func (.func f) fs cs) σ:=(rfl)
@[simp] theorem nilK_yield (f:Nat) (fs cs:Array Value):nilK σ (.func (.yield f) fs cs)= .val (.func (.yield f) fs cs) σ:=(rfl)
end
end Go.Sm
namespace Go.Sm
open Go
variable {E:Env} {σ:CSt}
def qgr (E:Env) (x:Ctx) (a:CAct) (L:Nat) (Q:Out→CSt→Prop):Out→CSt→Prop:=λo σ=>
 match o with
 | .ret _ _=>
  match σ.get L with
  |some (.loop st pend fn tm sz ps asg body)=>
   if st= .busy then False else
   match pend with
   |none=>Q (.code .normal a) (σ.put L (.loop .exhausted pend fn tm sz ps asg body))
   |some c=>W E (.code x c a) (σ.put L (.loop .exhausted pend fn tm sz ps asg body)) Q
  |_=>False
 | .pan v=>Q (.code (.panic v) a) σ
 |_=>False
def qhu (E:Env) (L:Nat) (fn:FuncId) (body:Code) (Q:Out→CSt→Prop):Out→CSt→Prop:=λo σ=>
 match o with
 | .code .normal a=>
  match σ.get L with
  |some (.loop .ready pend fn' tm' sz' ps' asg' body')=>
   W E (.code ⟨fn,some L,none⟩ body a) (σ.put L (.loop .busy pend fn' tm' sz' ps' asg' body')) λo σ2=>
    match o with
    | .code e a2=>
     match qgm e with
     |some j=>
      match σ2.get L with
      |some (.loop st _ fn' tm' sz' ps' asg' body')=>Q (.ret (.bool j.isNone) false) (σ2.put L (.loop (if j.isNone then .ready else .done) j fn' tm' sz' ps' asg' body'))
      |_=>False
     |none=>match e with| .panic v=>if a2.df.isEmpty then(match E.P.funcs[fn]? with|some _=>Q (.pan v) σ2|none=>False) else False|_=>False
    |_=>False
  |_=>False
 |_=>False
theorem qcc {x:Ctx} {f:Operand} {ps:Array Tmp} {asg body:Code} {a:CAct} {σ:CSt} {Q:Out→CSt→Prop} {g:FuncId} {fs cs:Array Value} (hf:a.eval f= .func (.func g) fs cs) (ha:qdc σ x.rnd=true):
  W E (.code x (.rangeFunc f ps asg body) a) σ Q=W E (.fn g (fs++ #[.func (.yield σ.n) #[] #[]]++cs) none) (σ.alloc (.loop .ready none x.f a.tm a.sz ps asg body)) (qgr E x a σ.n Q):=by
 rw [qm5];simp only [F,ha,hf,qf6,Bool.not_true,Bool.false_eq_true,if_false]
 rfl
theorem qjj {L:Nat} {args:Array Value} {σ:CSt} {Q:Out→CSt→Prop} {st:LoopState} {pend:Option Code} {fn:FuncId} {tm:Tr Value} {sz:Nat} {ps:Array Tmp} {asg body:Code} (hg:σ.get L=some (.loop st pend fn tm sz ps asg body)) (hs:args.size=ps.size):
  W E (.round L args) σ Q=W E (.code ⟨fn,some L,none⟩ asg {tm:=(ps.toList.zip args.toList).foldl (λt p=>if p.1<sz then t.set p.1 p.2 else t) tm,sz:=sz,df:= [],tk:=false}) σ (qhu E L fn body Q):=by
 rw [qm5];simp only [F,hg,hs,if_true]
 rfl
@[simp] theorem wres_yield (x:Ctx) (a:CAct) (d:Option Tmp) (K:CAct→CSt→Prop) (Q:Out→CSt→Prop) (L:Nat) (fs cs args:Array Value) (h:qcr E (.func (.yield L) fs cs) args σ=none):
  qls E x a d K Q σ (.call (.func (.yield L) fs cs) args)=W E (.round L (fs++args)) σ (kret a d K Q):=by
 simp only [qls,h,qf6]
 rfl
@[simp] theorem dres_yield (ops:Array Oper) (a0 a:CAct) (d:Option Tmp) (K:CAct→CSt→Prop) (Q:Out→CSt→Prop) (L:Nat) (fs cs args:Array Value) (h:qcr E (.func (.yield L) fs cs) args σ=none):
  qp5 E ops a0 a d K Q σ (.call (.func (.yield L) fs cs) args)=W E (.round L (fs++args)) σ (kretd ops a0 a d K Q):=by
 simp only [qp5,h,qf6]
 rfl
@[simp] theorem ext_yield (L:Nat) (fs cs args:Array Value) (σ:CSt):qcr E (.func (.yield L) fs cs) args σ=none:=(rfl)
end Go.Sm
namespace Go.Sm
open Go
set_option maxRecDepth 100000
set_option maxHeartbeats 4000000
def bl:List UInt8→List UInt8→Bool:=Op.bytesLess
theorem qi2:∀x:List UInt8,bl x x=false
 | []=>rfl
 |a::x=>by
  have h:=qi2 x;unfold bl at h⊢;simp [Op.bytesLess,h]
theorem qp0:∀{x y z:List UInt8},bl x y=true→bl y z=true→bl x z=true
 |_, [],_,h,_=>by unfold bl at h;simp [Op.bytesLess] at h
 |_,_::_, [],_,h=>by unfold bl at h;simp [Op.bytesLess] at h
 | [],_::_,_::_,_,_=>rfl
 |a::x,b::y,c::z,h1,h2=>by
  have ih:= @qp0 x y z;unfold bl at h1 h2 ih⊢;simp only [Op.bytesLess,Bool.or_eq_true,decide_eq_true_eq,Bool.and_eq_true,beq_iff_eq] at h1 h2⊢;rcases h1 with h1|⟨rfl,h1⟩
  ·rcases h2 with h2|⟨rfl,h2⟩
   ·exact .inl (UInt8.lt_trans h1 h2)
   ·exact .inl h1
  ·rcases h2 with h2|⟨rfl,h2⟩
   ·exact .inl h2
   ·exact .inr ⟨rfl,ih h1 h2⟩
theorem qyy:∀{x y:List UInt8},bl x y=false→bl y x=false→x=y
 | [], [],_,_=>rfl
 | [],_::_,h,_=>by unfold bl at h;simp [Op.bytesLess] at h
 |_::_, [],_,h=>by unfold bl at h;simp [Op.bytesLess] at h
 |a::x,b::y,h1,h2=>by
  have ih:= @qyy x y;unfold bl at h1 h2 ih;simp only [Op.bytesLess,Bool.or_eq_false_iff,decide_eq_false_iff_not,Bool.and_eq_false_iff] at h1 h2;have e:a=b:=UInt8.le_antisymm (UInt8.not_lt.1 h2.1) (UInt8.not_lt.1 h1.1);subst e;rw [ih (by simpa using h1.2) (by simpa using h2.2)]
theorem bl_asymm {x y:List UInt8} (h:bl x y=true):bl y x=false:=by
 cases h':bl y x with
 |false=>rfl
 |true=>have:=qp0 h h';rw [qi2] at this;cases this
theorem qep {s u:ByteArray} (h:s.toList=u.toList):s=u:=by
 have h3:s.data.toList=u.data.toList:=by rw [ByteArray.toList_eq,ByteArray.toList_eq] at h;exact h
 cases s;cases u;simp only at h3;rw [Array.toList_inj.1 h3]
def klt (s u:ByteArray):Bool:=bl s.toList u.toList
section
variable {P:Program} {σ:CSt} {t:TypeId} {x y:Operand} {s u:ByteArray}
@[simp] theorem bin_strlt:qd5 P σ .lss t x y (.string s) (.string u)= .val (.bool (klt s u)) σ:=by simp [qd5,eqGuard,binOp,Op.stringOp,klt,bl]
@[simp] theorem bin_strgt:qd5 P σ .gtr t x y (.string s) (.string u)= .val (.bool (!(klt s u||s.toList==u.toList))) σ:=by simp [qd5,eqGuard,binOp,Op.stringOp,klt,bl]
@[simp] theorem bin_strle:qd5 P σ .leq t x y (.string s) (.string u)= .val (.bool (klt s u||s.toList==u.toList)) σ:=by simp [qd5,eqGuard,binOp,Op.stringOp,klt,bl]
@[simp] theorem bin_strge:qd5 P σ .geq t x y (.string s) (.string u)= .val (.bool (!klt s u)) σ:=by simp [qd5,eqGuard,binOp,Op.stringOp,klt,bl]
end
theorem ba_eq {a b:ByteArray} (h:(a==b)=true):a=b:=by
 have h2:(a.data==b.data)=true:=h;have h3:a.data=b.data:=eq_of_beq h2;cases a;cases b;cases h3
 rfl
theorem zaz (a:ByteArray):(a==a)=true:=by
 have:(a.data==a.data)=true:=beq_self_eq_true _;exact this
def KK:PK→Value→Prop
 | .int k,v=>∃n,v= .int k n
 | .bool,v=>∃b,v= .bool b
 | .str,v=>∃s,v= .string s
def KL:List PK→List Value→Prop
 | [], []=>True
 |k::ks,v::vs=>KK k v∧KL ks vs
 |_,_=>False
theorem KL.length:∀{ks:List PK} {vs:List Value},KL ks vs→vs.length=ks.length
 | [], [],_=>rfl
 |_::ks,_::vs,h=>by simp [KL.length h.2]
theorem KL.split:∀{ks ls:List PK} {vs:List Value},KL (ks++ls) vs→KL ks (vs.take ks.length)∧KL ls (vs.drop ks.length)
 | [],_,vs,h=>⟨by simp [KL],by simpa using h⟩
 |_::ks,ls,v::vs,h=>by
  obtain⟨h1,h2⟩:=KL.split (ks:=ks) (ls:=ls) (vs:=vs) h.2;exact⟨⟨h.1,h1⟩,h2⟩
def qti (P:Program):Nat→TypeId→Bool
 |0,_=>false
 |f+1,t=>
  match P.underlying t with
  |some (.int _)|some .bool|some .string=>true
  |some (.struct fs)=> !P.stoodInHeld t&&fs.toList.all λfl=>fl.name != "_" &&qti P f fl.type&&((P.info? fl.type).map (·.size)==some (P.cellsOf fl.type))&&decide (0<P.cellsOf fl.type)
  |_=>false
def qhv (P:Program) (t:TypeId) (xs:List Value):Value:=if qd6 P t then .agg xs.toArray else xs.getD 0 undef
section
variable {P:Program}
theorem qei:qaq P program=some P:=rfl
theorem qof {t:TypeId} {d:TypeDesc} (h:P.underlying t=some d):qaq P (isAgg t)=some (qd6 P t):=by
 unfold isAgg qd6;rw [qac,qbl,h,Option.bind_some];cases d<;>rfl
theorem qmm {t:TypeId} {n:Nat} (h:(P.info? t).map (·.size)=some n):qaq P (Go.sizeOf t)=some n:=by
 unfold Go.sizeOf typeInfo;rw [qac,qac,qei,Option.bind_some];cases hi:P.info? t with
 |none=>rw [hi] at h;cases h
 |some i=>rw [hi] at h;simp at h;simp [hi,h]
theorem zay {f:Nat} {t:TypeId} {ks:List PK} (h:qek P f t=some ks):∃d,P.underlying t=some d∧(qd6 P t=false→ks.length=1):=by
 cases f with
 |zero=>cases h
 |succ f=>
  unfold qek at h;cases hu:P.underlying t with
  |none=>rw [hu] at h;cases h
  |some d=>
   rw [hu] at h;refine⟨d,rfl,λha=> ?_⟩
   cases d with
   |int k=>cases h;rfl
   |bool=>cases h;rfl
   |string=>cases h;rfl
   |struct fs=>simp [qd6,hu] at ha
   |_=>cases h
theorem qpt {f:Nat} {t:TypeId} {ks:List PK} (h:qek P f t=some ks) (hc:ks.length=P.cellsOf t) (hs:(P.info? t).map (·.size)=some (P.cellsOf t)) {xs:List Value} {off:Nat} (hl:off+ks.length≤xs.length):
  qaq P (part t xs.toArray off)=some (qhv P t ((xs.drop off).take ks.length)):=by
 obtain⟨d,hu,h1⟩:=zay h;unfold part qhv;rw [qac,qof hu,Option.bind_some];cases ha:qd6 P t with
 |true=>
  simp only [if_true];rw [qac,qmm hs,Option.bind_some,hc];have:xs.toArray.extract off (off+P.cellsOf t)=((xs.drop off).take (P.cellsOf t)).toArray:=by
   rw [List.extract_toArray,List.extract_eq_take_drop];simp
  rw [this]
  rfl
 |false=>
  have h2:=h1 ha;rw [h2] at hl⊢;have h3:off<xs.length:=by omega
  have h4:xs.toArray[off]? =some xs[off]:=by simp [h3]
  simp only [Bool.false_eq_true,if_false];rw [h4];have:((xs.drop off).take 1).getD 0 undef=xs[off]:=by
   rw [List.drop_eq_getElem_cons h3]
   rfl
  rw [this]
  rfl
theorem qze {f d:Nat} (ih:∀t ks,qek P f t=some ks→qti P f t=true→∀xs ys:List Value,KL ks xs→KL ks ys→∃b,qaq P (Op.equalIn d t (qhv P t xs) (qhv P t ys))=some b∧(b=true↔xs=ys)) {xs ys:List Value}:
  ∀(l:List Field) (off:Nat) (ks:List PK),qk3 P (qek P f) l off=some ks→(∀fl∈l,(fl.name != "_")=true∧qti P f fl.type=true∧(P.info? fl.type).map (·.size)=some (P.cellsOf fl.type)∧0<P.cellsOf fl.type)→KL ks (xs.drop off)→KL ks (ys.drop off)→
   ∃b:Bool,qaq P (forIn l ((none,()):Option Bool×Unit) λf __s=>if f.name≠ "_" then do
        let __do_lift ←part f.type xs.toArray f.offset
        let __do_lift_1 ←part f.type ys.toArray f.offset
        let __do_lift ←Op.equalIn d f.type __do_lift __do_lift_1
        if(!__do_lift)=true then pure (ForInStep.done (some false,()))
         else pure (ForInStep.yield (none,()))
       else pure (ForInStep.yield (none,())))=some (if b=true then(none,()) else(some false,()))∧(b=true↔xs.drop off=ys.drop off)
 | [],off,ks,h,_,hx,hy=>by
  simp only [qk3,Option.some.injEq] at h;subst h;have e1:xs.drop off= []:=List.eq_nil_of_length_eq_zero (by simpa using hx.length)
  have e2:ys.drop off= []:=List.eq_nil_of_length_eq_zero (by simpa using hy.length)
  exact⟨true,rfl,by simp [e1,e2]⟩
 |fl::l,off,ks,h,hf,hx,hy=>by
  unfold qk3 at h;split at h
  ·rename_i ho;split at h
   ·rename_i k1 hk1;split at h
    ·rename_i hc;rw [Option.map_eq_some_iff] at h;obtain⟨k2,h2,rfl⟩:=h;obtain⟨f1,f2,f3,f4⟩:=hf fl (by simp)
     have f1':fl.name≠ "_" :=by simpa using f1
     obtain⟨x1,x2⟩:=hx.split;obtain⟨y1,y2⟩:=hy.split;rw [List.drop_drop] at x2 y2;have lx:=hx.length;have ly:=hy.length;simp only [List.length_append,List.length_drop] at lx ly;have p1:=qpt hk1 hc f3 (xs:=xs) (off:=off) (by omega)
     have p2:=qpt hk1 hc f3 (xs:=ys) (off:=off) (by omega)
     obtain⟨b1,g1,g2⟩:=ih _ _ hk1 f2 _ _ x1 y1;obtain⟨b2,g3,g4⟩:=qze ih l (off+k1.length) k2 h2 (λg hg=>hf g (by simp [hg])) x2 y2
     rw [List.forIn_cons,qac,if_pos f1',qac,ho,p1,Option.bind_some,qac,p2,Option.bind_some,qac,g1,Option.bind_some];have hsplit:(xs.drop off=ys.drop off)↔((xs.drop off).take k1.length=(ys.drop off).take k1.length∧xs.drop (off+k1.length)=ys.drop (off+k1.length)):=by
      constructor
      ·intro e;rw [←List.drop_drop,←List.drop_drop,e];exact⟨rfl,rfl⟩
      ·rintro⟨e1,e2⟩;rw [←List.take_append_drop k1.length (xs.drop off),←List.take_append_drop k1.length (ys.drop off),e1,List.drop_drop,List.drop_drop,e2]
     cases b1 with
     |false=>
      refine⟨false,rfl, ?_⟩;rw [hsplit];simp only [Bool.false_eq_true,false_iff] at g2⊢;exact λe=>g2 e.1
     |true=>
      refine⟨b2,g3, ?_⟩;rw [hsplit,g4];simp only [true_iff] at g2;exact⟨λe=>⟨g2,e⟩,λe=>e.2⟩
    ·cases h
   ·cases h
  ·cases h
theorem qoq:∀(f:Nat) (t:TypeId) (ks:List PK),qek P f t=some ks→qti P f t=true→∀(d:Nat),f≤d→∀xs ys:List Value,KL ks xs→KL ks ys→∃b,qaq P (Op.equalIn d t (qhv P t xs) (qhv P t ys))=some b∧(b=true↔xs=ys)
 |0,_,_,h,_,_,_,_,_,_,_=>by cases h
 |f+1,t,ks,h,he,d,hd,xs,ys,hx,hy=>by
  obtain⟨d,rfl⟩:∃d',d=d'+1:=⟨d-1,by omega⟩
  unfold qek at h;unfold qti at he;cases hu:P.underlying t with
  |none=>rw [hu] at h;cases h
  |some dd=>
   rw [hu] at h he;rw [Op.equalIn,qac,qbl,hu,Option.bind_some];cases dd with
   |int k=>
    cases h
    match xs,ys,hx,hy with
    | [x], [y],⟨⟨n,hx⟩,_⟩,⟨⟨m,hy⟩,_⟩=>
     subst hx;subst hy;refine⟨n==m, ?_,by simp⟩
     simp [qhv,qd6,hu]
   |bool=>
    cases h
    match xs,ys,hx,hy with
    | [x], [y],⟨⟨n,hx⟩,_⟩,⟨⟨m,hy⟩,_⟩=>
     subst hx;subst hy;refine⟨n==m, ?_,by simp⟩
     simp [qhv,qd6,hu]
   |string=>
    cases h
    match xs,ys,hx,hy with
    | [x], [y],⟨⟨n,hx⟩,_⟩,⟨⟨m,hy⟩,_⟩=>
     subst hx;subst hy;refine⟨n==m, ?_,⟨λh=>by rw [ba_eq h],λh=>by cases h;exact zaz n⟩⟩
     simp [qhv,qd6,hu]
   |struct fs=>
    simp only at h;split at h
    ·rename_i k1 hk1;split at h
     ·rename_i hc;cases h;simp only [Bool.and_eq_true,Bool.not_eq_true',List.all_eq_true,beq_iff_eq,decide_eq_true_eq] at he;obtain⟨hs,hf⟩:=he;obtain⟨b,g1,g2⟩:=qze (d:=d) (λt ks h1 h2 xs ys h3 h4=>qoq f t ks h1 h2 d (by omega) xs ys h3 h4) (xs:=xs) (ys:=ys) fs.toList 0 ks hk1 (λfl hfl=>⟨(hf fl hfl).1.1.1,(hf fl hfl).1.1.2,(hf fl hfl).1.2,(hf fl hfl).2⟩) (by simpa using hx) (by simpa using hy)
      rw [List.drop_zero,List.drop_zero] at g2;refine⟨b, ?_,g2⟩;have hw:∀zs:List Value,qhv P t zs= .agg zs.toArray:=λzs=>by simp [qhv,qd6,hu]
      rw [hw,hw];simp only [qac,qei,Option.bind_some,hs,Bool.false_eq_true,if_false];rw [Array.forIn_toList] at g1;rw [g1,Option.bind_some];cases b<;>rfl
     ·cases h
    ·cases h
   |_=>cases h
theorem qh7 {f:Nat} {t:TypeId} {ks:List PK} (hk:qek P f t=some ks) (he:qti P f t=true) (hf:f≤10000) (ha:qd6 P t=true) (hg:P.eqGuardType P.depth t=false) {xs ys:List Value} (hx:KL ks xs) (hy:KL ks ys)
  (hfx:xs.all qae=true) (hfy:ys.all qae=true) {σ:CSt} {x y:Operand}:∃b:Bool,qd5 P σ .eql t x y (.agg xs.toArray) (.agg ys.toArray)= .val (.bool b) σ∧qd5 P σ .neq t x y (.agg xs.toArray) (.agg ys.toArray)= .val (.bool (!b)) σ∧(b=true↔xs=ys):=by
 obtain⟨b,h1,h2⟩:=qoq f t ks hk he 10000 hf xs ys hx hy;have hw:∀zs:List Value,qhv P t zs= .agg zs.toArray:=λzs=>by simp [qhv,ha]
 rw [hw,hw] at h1;have hgd:∀op,qaq P (eqGuard op t x y (.agg xs.toArray) (.agg ys.toArray))=some ():=by
  intro op;unfold eqGuard;cases op<;>simp [qac,qei,hg]
 have hfl:(flat (.agg xs.toArray)&&flat (.agg ys.toArray))=true:=by simp only [flat,Bool.and_eq_true];exact⟨hfx,hfy⟩
 have e1:qaq P (binOp .eql t (.agg xs.toArray) (.agg ys.toArray))=some (.bool b):=by
  have:binOp .eql t (.agg xs.toArray) (.agg ys.toArray)=(do pure (.bool (←Op.equal t (.agg xs.toArray) (.agg ys.toArray))):Sem Value):=rfl
  rw [this,qac];unfold Op.equal Op.maxDepth;rw [h1]
  rfl
 have e2:qaq P (binOp .neq t (.agg xs.toArray) (.agg ys.toArray))=some (.bool (!b)):=by
  have:binOp .neq t (.agg xs.toArray) (.agg ys.toArray)=(do pure (.bool (!(←Op.equal t (.agg xs.toArray) (.agg ys.toArray)))):Sem Value):=rfl
  rw [this,qac];unfold Op.equal Op.maxDepth;rw [h1]
  rfl
 refine⟨b, ?_, ?_,h2⟩
 ·unfold qd5;rw [if_pos hfl,qac,hgd,Option.bind_some,e1]
  rfl
 ·unfold qd5;rw [if_pos hfl,qac,hgd,Option.bind_some,e2]
  rfl
end
abbrev MlG (κ:Type):=List (κ×Value)
abbrev Ml:=MlG ByteArray
section
variable {κ:Type} [DecidableEq κ]
def qf8 (key:κ→Value) (es:List MapEntry) (M:MlG κ):Prop:=es.map (λe=>(e.key,e.val))=M.map λp=>(key p.1,p.2)
def qq5 (k:κ):MlG κ→Nat→Option (Nat×Value)
 | [],_=>none
 |p::M,i=>if p.1=k then some (i,p.2) else qq5 k M (i+1)
structure Keyed (key:κ→Value) (kd:TypeDesc):Prop where
 flat:∀k,qae (key k)=true
 same:∀k k',Instr.sameNow kd (key k) (key k')=some (decide (k'=k))
 inj:∀k k',key k=key k'→k=k'
theorem qc3:Keyed Value.string .string:=by
 refine⟨λk=>rfl,λk k'=> ?_,λk k' h=>by cases h;rfl⟩
 by_cases e1:k'=k
 ·subst e1;simp [Instr.sameNow,zaz]
 ·have hne:(k==k')=false:=by
   cases h:(k==k') with
   |false=>rfl
   |true=>exact absurd (ba_eq h).symm e1
  simp [Instr.sameNow,hne,e1]
theorem qbv (ik:IntKind):Keyed (Value.int ik) (.int ik):=by
 refine⟨λk=>rfl,λk k'=> ?_,λk k' h=>by cases h;rfl⟩
 by_cases e1:k'=k
 ·subst e1;simp [Instr.sameNow]
 ·have:¬k=k':=λh=>e1 h.symm
  simp [Instr.sameNow,e1,this]
theorem qf2 {key:κ→Value} {kd:TypeDesc} (hk:Keyed key kd) (k:κ):∀(es:List MapEntry) (M:MlG κ) (i:Nat),qf8 key es M→Instr.findNow kd (key k) es i=some (qq5 k M i)
 | [], [],_,_=>rfl
 | [],p::M,_,h=>by simp [qf8] at h
 |e::es, [],_,h=>by simp [qf8] at h
 |e::es,p::M,i,h=>by
  simp only [qf8,List.map_cons,List.cons.injEq,Prod.mk.injEq] at h;obtain⟨⟨h1,h2⟩,h3⟩:=h;have ih:=qf2 hk k es M (i+1) h3;unfold Instr.findNow qq5;rw [h1,hk.same];by_cases e1:p.1=k
  ·simp [e1,h2]
  ·simp [e1];exact ih
def qkg (M:MlG κ) (k:κ):Option Value:=(M.find? λp=>decide (p.1=k)).map (·.2)
def ql3:MlG κ→κ→Value→MlG κ
 | [],k,v=> [(k,v)]
 |p::M,k,v=>if p.1=k then(k,v)::M else p::ql3 M k v
theorem qh1 {k:κ} {v:Value}:∀{M:MlG κ} {i:Nat},qq5 k M i=none→qkg M k=none∧ql3 M k v=M++ [(k,v)]∧∀p∈M,p.1≠k
 | [],_,_=>⟨rfl,rfl,by simp⟩
 |p::M,i,h=>by
  unfold qq5 at h;by_cases e:p.1=k
  ·rw [if_pos e] at h;cases h
  ·rw [if_neg e] at h;obtain⟨h1,h2,h3⟩:=qh1 (v:=v) h;unfold qkg ql3;rw [if_neg e,h2];refine⟨?_,rfl,λq hq=> ?_⟩
   ·rw [List.find?_cons];simp only [e,decide_false];exact h1
   ·rcases List.mem_cons.1 hq with rfl|hq
    ·exact e
    ·exact h3 q hq
theorem qez {k:κ} {v w:Value} {j:Nat}:∀{M:MlG κ} {i:Nat},qq5 k M i=some (j,w)→i≤j∧j-i<M.length∧qkg M k=some w∧ql3 M k v=M.set (j-i) (k,v)∧(M[j-i]?).map (·.1)=some k
 | [],_,h=>by cases h
 |p::M,i,h=>by
  unfold qq5 at h;by_cases e:p.1=k
  ·rw [if_pos e] at h;cases h;refine⟨Nat.le_refl _,by simp, ?_, ?_,by simp [e]⟩
   ·unfold qkg;rw [List.find?_cons];simp [e]
   ·unfold ql3;rw [if_pos e];simp
  ·rw [if_neg e] at h;obtain⟨h0,h1,h2,h3,h4⟩:=qez (v:=v) h;have hj:j-i=(j-(i+1))+1:=by omega
   refine⟨by omega,by simp;omega, ?_, ?_,by rw [hj];simpa using h4⟩
   ·unfold qkg;rw [List.find?_cons];simp only [e,decide_false];exact h2
   ·unfold ql3;rw [if_neg e,h3,hj,List.set_cons_succ]
structure EntsOk (key:κ→Value) (es:List MapEntry) (clock:Nat) (M:MlG κ):Prop where
 ents:qf8 key es M
 nodup:(es.map (·.born)).Nodup
 born:∀e∈es,e.born<clock
 keys:(M.map (·.1)).Nodup
def MpG (key:κ→Value) (σ:CSt) (m:Nat) (M:MlG κ):Prop:=∃es clock,σ.get m=some (.map es clock)∧EntsOk key es.toList clock M
theorem qf8.length {κ:Type} {key:κ→Value} {es:List MapEntry} {M:MlG κ} (h:qf8 key es M):es.length=M.length:=by have:=congrArg List.length h;simpa using this
theorem qdp {κ:Type} (key:κ→Value) (c:Nat):EntsOk key [] c ([]:MlG κ):=⟨rfl,by simp,by simp,by simp⟩
theorem qpo {k:κ} {v:Value}:∀{M:MlG κ},(M.map (·.1)).Nodup→((ql3 M k v).map (·.1)).Nodup∧∀q,q∈(ql3 M k v).map (·.1)↔q=k∨q∈M.map (·.1)
 | [],_=>by simp [ql3]
 |p::M,h=>by
  rw [List.map_cons,List.nodup_cons] at h;obtain⟨h1,h2⟩:=qpo (k:=k) (v:=v) h.2;unfold ql3;by_cases e:p.1=k
  ·rw [if_pos e,List.map_cons,List.nodup_cons];refine⟨⟨by rw [←e];exact h.1,h.2⟩,λq=> ?_⟩
   simp [e]
  ·rw [if_neg e,List.map_cons,List.nodup_cons];refine⟨⟨λhm=> ?_,h1⟩,λq=> ?_⟩
   ·rcases(h2 p.1).1 hm with h3|h3
    ·exact e h3
    ·exact h.1 h3
   ·rw [List.mem_cons,h2,List.map_cons,List.mem_cons];exact or_left_comm
theorem qz5 {k:κ} {M:MlG κ} (h:∀p∈M,p.1≠k):qkg M k=none:=by
 unfold qkg;rw [List.find?_eq_none.2 λp hp=>by simpa using h p hp]
 rfl
theorem qki {k:κ} {v:Value}:∀{M:MlG κ},(M.map (·.1)).Nodup→(k,v)∈M→qkg M k=some v
 | [],_,h=>by cases h
 |p::M,hn,h=>by
  rw [List.map_cons,List.nodup_cons] at hn;unfold qkg;rw [List.find?_cons];rcases List.mem_cons.1 h with rfl|h
  ·simp
  ·have:p.1≠k:=λe=>hn.1 (by rw [e];exact List.mem_map_of_mem (f:=(·.1)) h)
   simp only [this,decide_false];exact qki hn.2 h
section
variable {P:Program} {σ:CSt} {t kt et:TypeId} {m:Nat} {M:MlG κ} {k:κ} {key:κ→Value} {kd:TypeDesc}
theorem qd2 (ht:P.underlying t=some (.map kt et)) (hk:qdb P kt=some kd) (hK:Keyed key kd) {z:Value} (hz:qje P et=some z) (h:MpG key σ m M) (ok:Bool):qbr P σ t (.map (some m)) (key k) ok=some (if ok then .tuple #[(qkg M k).getD z, .bool (qkg M k).isSome] else(qkg M k).getD z):=by
 obtain⟨es,clock,hg,he⟩:=h;have hf:qht P kt (key k) es=some (qq5 k M 0):=by unfold qht;rw [hk];exact qf2 hK k _ M 0 he.ents
 unfold qbr;rw [ht];simp only [CSt.maps,hg,Option.map_some,hf,hK.flat,if_true];cases hp:qq5 k M 0 with
 |none=>rw [(qh1 (v:=z) hp).1];simp [hz]
 |some jw=>obtain⟨j,w⟩:=jw;rw [(qez (v:=z) hp).2.2.1];simp
theorem qs8 (ht:P.underlying t=some (.map kt et)) (hk:qdb P kt=some kd) (hK:Keyed key kd) {z:Value} (hz:qje P et=some z) (ok:Bool):qbr P σ t (.map none) (key k) ok=some (if ok then .tuple #[z, .bool false] else z):=by
 have hf:qht P kt (key k) #[]=some none:=by unfold qht;rw [hk];rfl
 unfold qbr;rw [ht];simp only [hf,hK.flat,if_true,hz,Option.map_some]
theorem qct (ht:P.underlying t=some (.map kt et)) (hk:qdb P kt=some kd) (hK:Keyed key kd) (h:MpG key σ m M) (v:Value):∃o,qdh P σ t (.map (some m)) (key k) v=some (σ.put m o)∧MpG key (σ.put m o) m (ql3 M k v):=by
 obtain⟨es,clock,hg,he⟩:=h;have hf:qht P kt (key k) es=some (qq5 k M 0):=by unfold qht;rw [hk];exact qf2 hK k _ M 0 he.ents
 unfold qdh;rw [ht];simp only [CSt.maps,hg,hf,hK.flat,if_true];have hkeys:=(qpo (k:=k) (v:=v) he.keys).1;cases hp:qq5 k M 0 with
 |none=>
  refine⟨_,rfl,_,_,by rw [CSt.get_put,if_pos rfl], ?_⟩
  have hset:=(qh1 (v:=v) hp).2.1;rw [hset] at hkeys;rw [hset];have he1:=he.ents;refine⟨?_, ?_,λe h=> ?_,hkeys⟩
  ·unfold qf8 at he1⊢;simp [he1]
  ·rw [Array.toList_push,List.map_append,List.nodup_append];refine⟨he.nodup,by simp,λa ha b hb=> ?_⟩
   obtain⟨e,h1,rfl⟩:=List.mem_map.1 ha;simp at hb;have:=he.born e h1;omega
  ·rw [Array.toList_push] at h;rcases List.mem_append.1 h with h|h
   ·have:=he.born e h;omega
   ·rw [List.mem_singleton] at h;rw [h];exact Nat.lt_succ_self _
 |some jw=>
  obtain⟨j,w⟩:=jw;obtain⟨h1,h2,h3,h4,h5⟩:=qez (v:=v) hp;refine⟨_,rfl,_,_,by rw [CSt.get_put,if_pos rfl], ?_⟩
  rw [h4] at hkeys;rw [h4];have he1:=he.ents;have hb:(es.modify j λe=>{e with key:=key k,val:=v}).toList.map (·.born)=es.toList.map (·.born):=by
   rw [Array.toList_modify];apply List.ext_getElem?;intro n;simp only [List.getElem?_map,List.getElem?_modify];by_cases e:j=n
   ·subst e;simp [Option.map_map,Function.comp_def]
   ·simp [e]
  refine⟨?_,by rw [hb];exact he.nodup,λe h=> ?_,hkeys⟩
  ·unfold qf8 at he1⊢;rw [Array.toList_modify,Nat.sub_zero];apply List.ext_getElem?;intro n;have hn:=congrArg (·[n]?) he1
   simp only [List.getElem?_map,List.getElem?_modify,List.getElem?_set] at hn⊢;by_cases e:j=n
   ·subst e;rw [Nat.sub_zero] at h2;have hl:=qf8.length he1;simp [h2,List.getElem?_eq_getElem (show j<es.toList.length by omega)]
   ·simp [e];simpa using hn
  ·have h6:e.born∈(es.modify j λe=>{e with key:=key k,val:=v}).toList.map (·.born):=List.mem_map_of_mem h
   rw [hb] at h6;obtain⟨e',h7,h8⟩:=List.mem_map.1 h6;rw [←h8];exact he.born e' h7
end
end
section
variable {κ:Type} [DecidableEq κ]
def MIt (key:κ→Value) (σ:CSt) (r m:Nat) (M S:MlG κ):Prop:=∃es clock seen,σ.get m=some (.map es clock)∧EntsOk key es.toList clock M∧σ.get r=some (.miter (some m) clock seen clock)∧r≠m∧qf8 key (es.toList.filter λe=> !seen.contains e.born) S
theorem MIt.congr {κ:Type} {key:κ→Value} {σ σ':CSt} {r m:Nat} {M S:MlG κ} (h:MIt key σ r m M S) (h1:σ'.get r=σ.get r) (h2:σ'.get m=σ.get m):MIt key σ' r m M S:=by
 obtain⟨es,clock,seen,a,b,c,d⟩:=h;exact⟨es,clock,seen,by rw [h2];exact a,b,by rw [h1];exact c,d⟩
theorem MIt.mp {κ:Type} {key:κ→Value} {σ:CSt} {r m:Nat} {M S:MlG κ} (h:MIt key σ r m M S):MpG key σ m M:=by
 obtain⟨es,clock,seen,a,b,c,d⟩:=h;exact⟨es,clock,a,b⟩
variable {P:Program} {σ:CSt} {ev:Operand→Value} {dst:Option Tmp} {ty:TypeId} {pos:String} {after:Array Edge} {g:Option (Nat×Bool)}
@[simp] theorem copE_range (t:TypeId) (x:Operand):cop P σ ev ⟨dst, .range t x,ty,pos,after,g⟩=OpR.ofP (qg3 P σ t (ev x)):=(rfl)
@[simp] theorem copE_next (it:Operand) (s:Bool):cop P σ ev ⟨dst, .next it s,ty,pos,after,g⟩=qej σ (ev it) s:=(rfl)
@[simp] theorem copE_entry (it:Operand):cop P σ ev ⟨dst, .entry it,ty,pos,after,g⟩=OpR.ofV σ (qgs σ (ev it)):=(rfl)
theorem qb3 {κ:Type} {key:κ→Value} {t kt et:TypeId} {m:Nat} {M:MlG κ} (ht:P.underlying t=some (.map kt et)) (h:MpG key σ m M) (hm:m<σ.n):∃o,qg3 P σ t (.map (some m))=some (.pointer (some ⟨σ.n,0,none⟩),σ.alloc o)∧MIt key (σ.alloc o) σ.n m M M:=by
 obtain⟨es,clock,hg,he⟩:=h;refine⟨.miter (some m) clock #[] clock, ?_,es,clock, #[], ?_,he,by rw [CSt.get_alloc,if_pos rfl],by omega, ?_⟩
 ·unfold qg3;rw [ht];simp only [CSt.maps,hg]
 ·rw [CSt.get_alloc,if_neg (by omega)];exact hg
 ·have:(es.toList.filter λe=> !(#[]:Array Nat).contains e.born)=es.toList:=List.filter_eq_self.2 λe _=>by simp
  rw [this];exact he.ents
theorem qfd:∀(l:List MapEntry) (j:Nat) (h:j<l.length),(l.map (·.born)).Nodup→l.filter (λe=> !(e.born==l[j].born))=l.eraseIdx j
 | [],j,h,_=>by simp at h
 |e::l,0,h,hn=>by
  rw [List.map_cons,List.nodup_cons] at hn;simp only [List.getElem_cons_zero,List.eraseIdx_zero,List.tail_cons];rw [List.filter_cons];simp;intro a ha e2;exact hn.1 (by rw [←e2];exact List.mem_map_of_mem ha)
 |e::l,j+1,h,hn=>by
  rw [List.map_cons,List.nodup_cons] at hn;have hj:j<l.length:=by simpa using h
  have ih:=qfd l j hj hn.2;simp only [List.getElem_cons_succ,List.eraseIdx_cons_succ];rw [List.filter_cons,ih];have:(!(e.born==l[j].born))=true:=by
   simp;intro e2;exact hn.1 (by rw [e2];exact List.mem_map_of_mem (List.getElem_mem hj))
  rw [this];rfl
theorem qbb {κ:Type} {E:Env} {x:Ctx} {a:CAct} {d:Option Tmp} {K:CAct→CSt→Prop} {Q:Out→CSt→Prop} {key:κ→Value} {r m:Nat} {M S:MlG κ} (h:MIt key σ r m M S)
  (h0:S= []→K (a.put d (.tuple #[.bool false])) σ)
  (h1:∀(j:Nat) (hj:j<S.length) (o:CObj),MIt key (σ.put r o) r m M (S.eraseIdx j)→qgs (σ.put r o) (.pointer (some ⟨r,0,none⟩))=some (.tuple #[key S[j].1,S[j].2])→K (a.put d (.tuple #[.bool true,key S[j].1,S[j].2])) (σ.put r o)):
  qls E x a d K Q σ (qej σ (.pointer (some ⟨r,0,none⟩)) false):=by
 obtain⟨es,clock,seen,hm,he,hr,hrm,hS⟩:=h;have hlast:(!seen.isEmpty&& !es.isEmpty&&es.all (·.born≥clock))=false:=by
  cases hz:es.isEmpty with
  |true=>simp
  |false=>
   have:es.all (·.born≥clock)=false:=by
    rw [Bool.eq_false_iff];intro hall;have hne:es.toList≠ []:=by
     intro h;rw [Array.toList_eq_nil_iff] at h;rw [h] at hz;simp at hz
    obtain⟨e,l,hl⟩:=List.exists_cons_of_ne_nil hne;have hmem:e∈es.toList:=by rw [hl];simp
    have h1:=he.born e hmem;have h2:=Array.all_eq_true_iff_forall_mem.1 hall e (Array.mem_toList_iff.1 hmem);simp at h2;omega
   rw [this];simp
 have hmn:mapNext es clock seen=(if(es.toList.filter λe=> !seen.contains e.born).isEmpty then #[none] else #[])++((es.toList.filter λe=> !seen.contains e.born).map some).toArray:=by
  unfold mapNext;have e1:((es.filter λe=> !seen.contains e.born).filter λe=>decide (e.born<clock))=es.filter λe=> !seen.contains e.born:=by
   apply Array.filter_eq_self.2;intro e h;have:=he.born e (Array.mem_toList_iff.2 (Array.mem_filter.1 h).1);simpa using this
  have e2:((es.filter λe=> !seen.contains e.born).filter λe=>decide (e.born≥clock))= #[]:=by
   apply Array.filter_eq_empty_iff.2;intro e h;have:=he.born e (Array.mem_toList_iff.2 (Array.mem_filter.1 h).1);simp;omega
  simp only;rw [e1,e2];have e3:(es.filter λe=> !seen.contains e.born)=(es.toList.filter λe=> !seen.contains e.born).toArray:=by
   rw [←Array.toList_filter]
  rw [e3];simp
 have hlen:=qf8.length hS;unfold qej;simp only [hr,CSt.maps,hm];rw [hlast,hmn];simp only [Bool.false_eq_true,if_false];generalize hL:(es.toList.filter λe=> !seen.contains e.born)=L at hS hlen⊢
 unfold qls qmc;cases L with
 |nil=>
  have hS0:S= []:=List.eq_nil_of_length_eq_zero (by simpa using hlen.symm)
  simp;exact h0 hS0
 |cons e0 L=>
  have hpick:∀j,j<(e0::L).length→K (a.put d (.tuple #[.bool true,(e0::L)[j]!.key,(e0::L)[j]!.val])) (σ.put r (.miter (some m) clock (seen.push (e0::L)[j]!.born) clock)):=by
   intro j hj;have hjS:j<S.length:=by omega
   have hnd:((e0::L).map (·.born)).Nodup:=by rw [←hL];exact List.Nodup.sublist (List.Sublist.map _ List.filter_sublist) he.nodup
   have hfe:=qfd (e0::L) j hj hnd;have hgj:(e0::L)[j]! =(e0::L)[j]:=by rw [getElem!_pos]
   have hmem:(e0::L)[j]∈es.toList:=(List.mem_filter.1 (by rw [hL];exact List.getElem_mem hj:(e0::L)[j]∈es.toList.filter λe=> !seen.contains e.born)).1
   rw [hgj];generalize hej:(e0::L)[j]=ej at hfe hmem⊢;have hS':=hS;unfold qf8 at hS';have hp:=congrArg (·[j]?) hS'
   simp only [List.getElem?_map,List.getElem?_eq_getElem hj,List.getElem?_eq_getElem hjS,hej,Option.map_some,Option.some.injEq,Prod.mk.injEq] at hp;rw [hp.1,hp.2];refine h1 j hjS _ ⟨es,clock,seen.push ej.born,by rw [CSt.get_put,if_neg (Ne.symm hrm)];exact hm,he,by rw [CSt.get_put,if_pos rfl],hrm, ?_⟩ ?_
   ·have e1:(es.toList.filter λe=> !(seen.push ej.born).contains e.born)=(e0::L).eraseIdx j:=by
     rw [←hfe,←hL,List.filter_filter];apply List.filter_congr;intro e _;by_cases e2:e.born=ej.born<;>simp [Array.contains_push,e2]
    rw [e1];unfold qf8 at hS⊢;rw [List.eraseIdx_eq_take_drop_succ,List.eraseIdx_eq_take_drop_succ,List.map_append,List.map_append,List.map_take,List.map_drop,List.map_take,List.map_drop,hS]
   ·unfold qgs;have hb:(seen.push ej.born).back? =some ej.born:=by simp
    simp only [CSt.get_put,if_true,CSt.maps,if_neg (Ne.symm hrm),hm,hb];have hf:es.find? (λe=>e.born==ej.born)=some ej:=by
     rw [←Array.find?_toList];have:∀(l:List MapEntry),(l.map (·.born)).Nodup→ej∈l→l.find? (λe=>e.born==ej.born)=some ej:=by
      intro l
      induction l with
      |nil=>intro _ h;cases h
      |cons a l ih=>
       intro hn h;rw [List.map_cons,List.nodup_cons] at hn;rw [List.find?_cons];rcases List.mem_cons.1 h with rfl|h
       ·simp
       ·have:(a.born==ej.born)=false:=by
         simp;intro e2;exact hn.1 (by rw [e2];exact List.mem_map_of_mem h)
        rw [this];exact ih hn.2 h
     exact this es.toList he.nodup hmem
    rw [hf];simp [hp.1,hp.2]
  simp;split
  ·rename_i h;have hL0:L= []:=h;have:=hpick 0 (by simp)
   simpa [hL0] using this
  ·intro i hi;have hi':i<(e0::L).length:=by simpa using hi
   have:=hpick i hi';have hq:((e0::L).map some)[i]? =some (some (e0::L)[i]!):=by
    rw [List.getElem?_map,List.getElem?_eq_getElem hi',getElem!_pos (e0::L) i hi'];rfl
   simp only [List.map_cons] at hq;rw [hq];exact this
end
section
variable {α:Type} {P:Program} {σ:CSt} {e:TypeId} {sz b:Nat} {enc:α→List Value} {v x:Value} {l m:List α} {f:TF} {ts:Array TypeId}
theorem qqb (hsz:∀x,(enc x).length=sz) (hc:∀x,qc9 (enc x)=true) (hfs:f.size=sz) (h0:0<sz) (h1:0<f.bytes) (h2:f.zero.map List.length=some sz) (hown:Own b σ e enc v l) (hb:b≤σ.n)
  (hbig:(l.length+m.length)*f.bytes≤2^47) (hl:l.length<2^62):∃v' σ',qau σ e f v m.length (m.flatMap enc)=some (v',σ')∧Own b σ' e enc v' (l++m)∧qbx b σ σ'∧(∀j,j<σ.n→(∀i off n c,v= .slice (some ⟨i,off,none⟩) n c→j≠i)→σ'.get j=σ.get j)∧(m≠ []→∃n c,v'= .slice (some ⟨σ.n,0,none⟩) n c):=by
 have hml:=qa5 enc hsz m;have hll:=qa5 enc hsz l;have hcond:(m.flatMap enc).length=m.length*f.size∧qc9 (m.flatMap enc)=true∧0<f.size∧0<f.bytes∧f.zero.map List.length=some f.size:=by
  rw [hfs];exact⟨hml,qdz hc m,h0,h1,h2⟩
 unfold qau;rw [if_pos hcond];rcases hown with⟨rfl,rfl⟩|⟨i,cap,rfl,hbi,hin,hg,hcap⟩
 ·by_cases hm:m.length=0
  ·have:m= []:=List.eq_nil_of_length_eq_zero hm;subst this;exact⟨.slice none 0 0,σ,by simp,Own.nil,qbx.refl b σ,λ_ _ _=>rfl,λh=>absurd rfl h⟩
  ·refine⟨.slice (some ⟨σ.n,0,none⟩) m.length qa1,σ.alloc (.cells (m.flatMap enc) e false), ?_, .inr ⟨σ.n,qa1,rfl,hb,by simp,by simp, .inl rfl⟩,(qbx.refl b σ).alloc hb _,λj hj _=>by rw [CSt.get_alloc,if_neg (by omega)],λ_=>⟨_,_,rfl⟩⟩
   simp only [hm,if_false];rw [if_pos (by simpa using hbig)]
 ·by_cases hm:m.length=0
  ·have:m= []:=List.eq_nil_of_length_eq_zero hm;subst this;refine⟨.slice (some ⟨i,0,none⟩) l.length cap,σ, ?_, ?_,qbx.refl b σ,λ_ _ _=>rfl,λh=>absurd rfl h⟩
   ·simp only [List.length_nil,if_true];rw [if_pos];rcases hcap with rfl|⟨rfl,rfl⟩
    ·simp only [qa1];omega
    ·simp
   ·rw [List.append_nil];exact .inr ⟨i,cap,rfl,hbi,hin,hg,hcap⟩
  ·simp only [hm,if_false,hg];rcases hcap with rfl|⟨rfl,rfl⟩
   ·refine⟨.slice (some ⟨σ.n,0,none⟩) (l++m).length qa1,(σ.put i .dead).alloc (.cells ((l++m).flatMap enc) e false), ?_, .inr ⟨σ.n,qa1,rfl,hb,by simp,by simp, .inl rfl⟩,((qbx.refl b σ).put hbi _).alloc hb _,λj hj hne=>by rw [CSt.get_alloc,if_neg (by simp;omega),CSt.get_put,if_neg (hne _ _ _ _ rfl)],λ_=>⟨_,_,rfl⟩⟩
    simp only [if_true,and_self];rw [if_neg,if_pos hbig]
    ·have:ld (l.flatMap enc) 0 (l.length*f.size)=some (l.flatMap enc):=by
      rw [hfs,←hll];unfold ld;rw [if_pos (by omega),List.drop_zero,List.take_of_length_le (Nat.le_refl _)]
     rw [this];simp
    ·rw [hll,hfs,Nat.add_mul];have:0<m.length*sz:=Nat.mul_pos (by omega) h0
     omega
   ·refine⟨.slice (some ⟨σ.n,0,none⟩) m.length qa1,σ.alloc (.cells (m.flatMap enc) e false), ?_, .inr ⟨σ.n,qa1,by simp,hb,by simp,by simp, .inl rfl⟩,(qbx.refl b σ).alloc hb _,λj hj _=>by rw [CSt.get_alloc,if_neg (by omega)],λ_=>⟨_,_,rfl⟩⟩
    rw [if_neg (by simp [qa1]),if_neg (by rw [List.length_nil];omega)]
    simp only [List.length_nil,Nat.zero_add,Nat.zero_mul] at hbig⊢;rw [if_pos hbig];simp [ld]
theorem qay (hf:ts[0]?.bind (qc6 P)=some (e,f)) (hu:(ts[1]?.bind (qbo P)).isSome=true) (hsz:∀x,(enc x).length=sz) (hc:∀x,qc9 (enc x)=true) (hfs:f.size=sz) (h0:0<sz) (h1:0<f.bytes) (h2:f.zero.map List.length=some sz)
  (hown:Own b σ e enc v l) (hb:b≤σ.n) (hx:Sl σ e sz enc x m) (hbig:(l.length+m.length)*f.bytes≤2^47) (hl:l.length<2^62):
  ∃v' σ',qas P σ ts v x=some (v',σ')∧Own b σ' e enc v' (l++m)∧qbx b σ σ'∧(∀j,j<σ.n→(∀i off n c,v= .slice (some ⟨i,off,none⟩) n c→j≠i)→σ'.get j=σ.get j)∧(m≠ []→∃n c,v'= .slice (some ⟨σ.n,0,none⟩) n c):=by
 obtain⟨g1,g2⟩:=qil hsz hx;obtain⟨v',σ',g3,g4,g5⟩:=qqb hsz hc hfs h0 h1 h2 hown hb hbig hl;refine⟨v',σ', ?_,g4,g5⟩;rw [qat (by rw [hf];rfl) hu,hf]
 simp only [qhk,g1,hfs,g2,Option.bind_some];exact g3
end
section
variable {P:Program} {σ:CSt} {ev:Operand→Value} {dst:Option Tmp} {ty:TypeId} {pos:String} {after:Array Edge} {g:Option (Nat×Bool)}
@[simp] theorem copE_lookup (t:TypeId) (m k:Operand) (ok:Bool):cop P σ ev ⟨dst, .lookup t m k ok,ty,pos,after,g⟩=OpR.ofV σ (qbr P σ t (ev m) (ev k) ok):=(rfl)
@[simp] theorem copE_mapUpdate (t:TypeId) (m k x:Operand):cop P σ ev ⟨dst, .mapUpdate t m k x,ty,pos,after,g⟩=OpR.ofS (qdh P σ t (ev m) (ev k) (ev x)):=(rfl)
theorem qcf {t kt et:TypeId} (h:P.underlying t=some (.map kt et)):cop P σ ev ⟨dst, .makeMap t none,ty,pos,after,g⟩= .val (.map (some σ.n)) (σ.alloc (.map #[] 0)):=by
 simp only [cop,h]
end
end Go.Sm
namespace Go.Sm
open Go
def qbj {α:Type} (b:Nat) (σ:CSt) (e:TypeId) (enc:α→List Value) (v:Value) (l:List α):Prop:=
 (v= .slice none 0 0∧l= [])∨∃i cap zs,v= .slice (some ⟨i,0,none⟩) l.length cap∧b≤i∧i<σ.n∧σ.get i=some (.cells (l.flatMap enc++zs) e false)∧qc9 zs=true∧(cap=qa1∨(l= []∧cap=0∧zs= []))
section
variable {α:Type} {σ σ':CSt} {e:TypeId} {sz:Nat} {enc:α→List Value} {v:Value} {l:List α} {b:Nat}
theorem qbj.nil:qbj b σ e enc (.slice none 0 0) ([]:List α):= .inl ⟨rfl,rfl⟩
theorem Own.z (h:Own b σ e enc v l):qbj b σ e enc v l:=by
 rcases h with h|⟨i,cap,h1,hb,hi,h2,h3⟩
 ·exact .inl h
 ·refine .inr ⟨i,cap, [],h1,hb,hi,by rw [List.append_nil];exact h2,rfl, ?_⟩
  rcases h3 with h3|⟨h3,h4⟩
  ·exact .inl h3
  ·exact .inr ⟨h3,h4,rfl⟩
theorem qbj.sl (hsz:∀x,(enc x).length=sz) (h:qbj b σ e enc v l):Sl σ e sz enc v l:=by
 rcases h with h|⟨i,cap,zs,rfl,hb,hi,hg,hz,hc⟩
 ·exact .inl h
 ·have hl:=qa5 enc hsz l;refine .inr ⟨i,0,cap,_,false,rfl,hg,hi, ?_, ?_, ?_⟩
  ·rw [List.drop_zero,←hl,List.take_left]
  ·rw [List.length_append];omega
  ·rcases hc with rfl|⟨rfl,rfl,_⟩
   ·exact .inl rfl
   ·exact .inr ⟨by simp,by simp [qa1]⟩
theorem qbj.grow (h:qbj b σ e enc v l) (hg:Grow σ σ'):qbj b σ' e enc v l:=by
 rcases h with h|⟨i,cap,zs,h1,hb,hi,h2,h3⟩
 ·exact .inl h
 ·exact .inr ⟨i,cap,zs,h1,hb,Nat.lt_of_lt_of_le hi hg.n,hg.get h2 hi,h3⟩
theorem qbj.weaken {b':Nat} (h:qbj b σ e enc v l) (hb:b'≤b):qbj b' σ e enc v l:=by
 rcases h with h|⟨i,cap,zs,h1,hb',h2⟩
 ·exact .inl h
 ·exact .inr ⟨i,cap,zs,h1,Nat.le_trans hb hb',h2⟩
theorem qbj.fr {T:TypeId→Prop} {b':Nat} {s0 s1:CSt} (h:qbj b' s0 e enc v l) (ht:¬T e) (hg:Fr T b s0 s1):qbj b' s1 e enc v l:=by
 rcases h with h|⟨i,cap,zs,h1,hb,hi,h2,h3⟩
 ·exact .inl h
 ·exact .inr ⟨i,cap,zs,h1,hb,Nat.lt_of_lt_of_le hi hg.1,hg.get h2 hi (.inr λrow' e' ro' he=>by cases he;exact ht),h3⟩
theorem qsi (hsz:∀x,(enc x).length=sz) (a:Nat) (ha:a≤l.length) (x:α) (zs:List Value):qbh sz a l.length (l.flatMap enc++zs) (enc x)=(l.take a++x::l.drop a).flatMap enc:=by
 have hl:=qa5 enc hsz l;rw [←qn0 hsz a ha x];unfold qbh;have h1:a*sz≤(l.flatMap enc).length:=by rw [hl];exact Nat.mul_le_mul_right _ ha
 rw [List.take_append_of_le_length h1,List.take_append_of_le_length (Nat.le_of_eq hl.symm)]
end
end Go.Sm
namespace Go.Sm
open Go
def qb1:Value→Option Nat
 | .slice (some ⟨i,_,_⟩) _ _=>some i
 |_=>none
def qd3 (v:Value) (s0 s1:CSt):Prop:=s0.n≤s1.n∧∀j,j<s0.n→qb1 v≠some j→s1.get j=s0.get j
theorem qd3.refl (v:Value) (s:CSt):qd3 v s s:=⟨Nat.le_refl _,λ_ _ _=>rfl⟩
theorem Grow.butV {v:Value} {s0 s1:CSt} (h:Grow s0 s1):qd3 v s0 s1:=⟨h.n,λj hj _=>h.old j hj⟩
theorem qd3.trans {v:Value} {s0 s1 s2:CSt} (h:qd3 v s0 s1) (h':qd3 v s1 s2):qd3 v s0 s2:=⟨Nat.le_trans h.1 h'.1,λj hj hne=>by rw [h'.2 j (Nat.lt_of_lt_of_le hj h.1) hne,h.2 j hj hne]⟩
theorem qd3.putV {v:Value} {i:Nat} {s0 s1:CSt} (h:qd3 v s0 s1) (hi:qb1 v=some i) (o:CObj):qd3 v s0 (s1.put i o):=⟨h.1,λj hj hne=>by rw [CSt.get_put,if_neg (by rintro rfl;exact hne hi)];exact h.2 j hj hne⟩
theorem qd3.alloc {v:Value} {s0 s1:CSt} (h:qd3 v s0 s1) (o:CObj):qd3 v s0 (s1.alloc o):=⟨by have:=h.1;simp;omega,λj hj hne=>by have:=h.1;rw [CSt.get_alloc,if_neg (by omega)];exact h.2 j hj hne⟩
section
variable {α:Type} {enc:α→List Value} {sz:Nat}
theorem qc0 {p:α→Bool} {l d:List α} {i j:Nat} (hj:j<l.length) (hd:d.length=l.length) (h1:d.take i=(l.take j).filter λx=> !p x) (h2:i=((l.take j).filter λx=> !p x).length) (h3:d.drop j=l.drop j) (h4:i≤j) (hp:p l[j]=false):
  (d.set i l[j]).length=l.length∧(d.set i l[j]).take (i+1)=(l.take (j+1)).filter (λx=> !p x)∧i+1=((l.take (j+1)).filter λx=> !p x).length∧(d.set i l[j]).drop (j+1)=l.drop (j+1):=by
 have e:(l.take (j+1)).filter (λx=> !p x)=(l.take j).filter (λx=> !p x)++ [l[j]]:=by
  rw [List.take_succ_eq_append_getElem hj,List.filter_append];simp [hp]
 refine⟨by simpa using hd, ?_,by rw [e,List.length_append,←h2];rfl, ?_⟩
 ·have h5:i<d.length:=by omega
  have hs:(d.set i l[j])[i]'(by simpa using h5)=l[j]:=by simp
  rw [List.take_succ_eq_append_getElem (by simpa using h5),hs,e,←h1]
  congr 1
  rw [List.take_set_of_le (Nat.le_refl _)]
 ·rw [List.drop_set_of_lt (by omega)]
  have:=congrArg (List.drop 1) h3;simpa [List.drop_drop] using this
theorem qc1 {p:α→Bool} {l d:List α} {i j:Nat} (hj:j<l.length) (h1:d.take i=(l.take j).filter λx=> !p x) (h2:i=((l.take j).filter λx=> !p x).length) (h3:d.drop j=l.drop j) (hp:p l[j]=true):
  d.take i=(l.take (j+1)).filter (λx=> !p x)∧i=((l.take (j+1)).filter λx=> !p x).length∧d.drop (j+1)=l.drop (j+1):=by
 have e:(l.take (j+1)).filter (λx=> !p x)=(l.take j).filter (λx=> !p x):=by
  rw [List.take_succ_eq_append_getElem hj,List.filter_append];simp [hp]
 refine⟨by rw [e];exact h1,by rw [e];exact h2, ?_⟩
 have:=congrArg (List.drop 1) h3;simpa [List.drop_drop] using this
theorem qh9 {l d:List α} {j:Nat} (hj:j<l.length) (hd:d.length=l.length) (h3:d.drop j=l.drop j):d[j]'(by omega)=l[j]:=by
 have:=congrArg (·[0]?) h3
 simpa [List.getElem?_drop,List.getElem?_eq_getElem hj,List.getElem?_eq_getElem (show j<d.length by omega)] using this
theorem qfc {p:α→Bool} {l:List α} {k:Nat} (hk:k<l.length) (h:∀i (hi:i<l.length),i<k→p l[i]=false) (hp:p l[k]=true):(l.take (k+1)).filter (λx=> !p x)=l.take k:=by
 rw [List.take_succ_eq_append_getElem hk,List.filter_append];have:(l.take k).filter (λx=> !p x)=l.take k:=by
  rw [List.filter_eq_self];intro x hx;obtain⟨i,hi,rfl⟩:=List.mem_iff_getElem.1 hx;rw [List.length_take] at hi;rw [List.getElem_take,h i (by omega) (by omega)]
  rfl
 rw [this];simp [hp]
theorem qin (hsz:∀x,(enc x).length=sz) (l:List α) (i:Nat) (x:α) (h:i<l.length) (zs:List Value):(l.flatMap enc++zs).take (i*sz)++enc x++(l.flatMap enc++zs).drop (i*sz+sz)=(l.set i x).flatMap enc++zs:=by
 have hl:=qa5 enc hsz l;have h1:i*sz+sz≤l.length*sz:=by rw [←Nat.succ_mul];exact Nat.mul_le_mul_right _ h
 rw [List.take_append_of_le_length (by omega),List.drop_append_of_le_length (by omega),←List.append_assoc,qoz enc hsz l i x h]
theorem rowZ (hsz:∀x,(enc x).length=sz) (l:List α) (zs:List Value):((l.flatMap enc++zs).drop 0).take (l.length*sz)=l.flatMap enc:=by
 rw [List.drop_zero,←qa5 enc hsz l,List.take_left]
theorem qp7 (hsz:∀x,(enc x).length=sz) (d:List α) (i:Nat) (hi:i≤d.length) (zs os:List Value) (ho:os.length=(d.length-i)*sz):(d.flatMap enc++zs).take (i*sz)++os++(d.flatMap enc++zs).drop (i*sz+os.length)=(d.take i).flatMap enc++(os++zs):=by
 have hl:=qa5 enc hsz d;have h1:i*sz≤d.length*sz:=Nat.mul_le_mul_right _ hi;have h2:i*sz+os.length=d.length*sz:=by rw [ho,←Nat.add_mul];congr 1;omega
 rw [h2,List.take_append_of_le_length (by omega),qkj enc hsz,←hl,List.drop_left,List.append_assoc]
end
end Go.Sm
namespace Go.Sm
open Go
theorem qbj.frV {α:Type} {b:Nat} {s s2:CSt} {e:TypeId} {enc:α→List Value} {v:Value} {l:List α} (h:qbj b s e enc v l) (hb:qd3 v s s2):Fr (λt=>t=e) b s s2:=by
 refine⟨hb.1,λj hj hc=>hb.2 j hj λho=> ?_⟩
 rcases h with⟨rfl,_⟩|⟨i,cap,zs,rfl,hbi,hi,hg,_⟩
 ·cases ho
 ·cases ho;rcases hc with hc|hc
  ·omega
  ·exact hc _ _ _ hg rfl
end Go.Sm
namespace Go.Sm
open Go
theorem qyd {κ:Type} {key:κ→Value} {P:Program} {σ:CSt} {t kt et:TypeId} {m:Nat} {M:MlG κ} (ht:P.underlying t=some (.map kt et)) (h:MpG key σ m M):lenF P σ (some t) (.map (some m))= .val (.int .i64 (List.length M)) σ:=by
 obtain⟨es,clock,hg,he⟩:=h;have hl:=qf8.length he.ents;unfold lenF qqx;simp [ht,CSt.maps,hg,←hl]
end Go.Sm
namespace Go.Sm
open Go
set_option maxRecDepth 100000
set_option maxHeartbeats 4000000
section
variable {α:Type} {P:Program} {σ:CSt} {e:TypeId} {sz b:Nat} {enc:α→List Value} {v x:Value} {l m:List α} {f:TF} {ts:Array TypeId}
theorem qkp (hf:ts[0]?.bind (qc6 P)=some (e,f)) (hu:(ts[1]?.bind (qbo P)).isSome=true) (hsz:∀x,(enc x).length=sz) (hc:∀x,qc9 (enc x)=true) (hfs:f.size=sz) (h0:0<sz) (h1:0<f.bytes) (h2:f.zero.map List.length=some sz)
  (hown:qbj b σ e enc v l) (hb:b≤σ.n) (hx:Sl σ e sz enc x m) (hbig:(l.length+m.length)*f.bytes≤2^47) (hl:l.length<2^62):
  ∃v' σ',qas P σ ts v x=some (v',σ')∧qbj b σ' e enc v' (l++m)∧qd3 v σ σ'∧(qb1 v'=qb1 v∨qb1 v'=some σ.n):=by
 rcases hown with⟨rfl,rfl⟩|⟨i,cap,zs,rfl,hbi,hin,hg,hz,hcap⟩
 ·by_cases hm:m= []
  ·subst hm;obtain⟨v',σ',a1,a2,a3,a4,a5⟩:=qay hf hu hsz hc hfs h0 h1 h2 (Own.nil (b:=b) (σ:=σ) (e:=e) (enc:=enc)) hb hx hbig hl;obtain⟨g1,g2⟩:=qil hsz hx;rw [qat (by rw [hf];rfl) hu,hf] at a1
   have hcond:([]:List Value).length=0*f.size∧qc9 ([]:List Value)=true∧0<f.size∧0<f.bytes∧f.zero.map List.length=some f.size:=by
    rw [hfs];exact⟨by simp,rfl,h0,h1,h2⟩
   refine⟨.slice none 0 0,σ, ?_, .inl ⟨rfl,rfl⟩,qd3.refl _ _, .inl rfl⟩;rw [qat (by rw [hf];rfl) hu,hf]
   have g2':qcz σ sz 0 x=some []:=by simpa using g2
   simp only [qhk,g1,hfs,g2',Option.bind_some,List.flatMap_nil,List.length_nil];unfold qau;rw [if_pos hcond];simp
  ·obtain⟨v',σ',a1,a2,a3,a4,a5⟩:=qay hf hu hsz hc hfs h0 h1 h2 (Own.nil (b:=b) (σ:=σ) (e:=e) (enc:=enc)) hb hx hbig hl;obtain⟨n,c,rfl⟩:=a5 hm;exact⟨_,σ',a1,a2.z,⟨a3.1,λj hj hne=>a4 j hj (λi off n c h=>by cases h)⟩, .inr rfl⟩
 ·rcases hcap with rfl|⟨rfl,rfl,rfl⟩
  ·by_cases hfit:m.length*sz≤zs.length
   ·obtain⟨σ',a1,a2,a3,a4⟩:=qwq (P:=P) (ts:=ts) hf hu hsz hc hfs h0 h1 h2 hg hx hfit hl;refine⟨_,σ',a1, .inr ⟨i,qa1,_,rfl,hbi,by rw [a3];exact hin,a2,qgf hz _, .inl rfl⟩,⟨by rw [a3];exact Nat.le_refl _,λj hj hne=>a4 j (by rintro rfl;exact hne rfl)⟩, .inl rfl⟩
   ·have hml:=qa5 enc hsz m;have hll:=qa5 enc hsz l;have hm0:m.length≠0:=by
     intro e;rw [e] at hfit;simp at hfit
    obtain⟨g1,g2⟩:=qil hsz hx;have hcond:(m.flatMap enc).length=m.length*f.size∧qc9 (m.flatMap enc)=true∧0<f.size∧0<f.bytes∧f.zero.map List.length=some f.size:=by
     rw [hfs];exact⟨hml,qdz hc m,h0,h1,h2⟩
    refine⟨.slice (some ⟨σ.n,0,none⟩) (l++m).length qa1,(σ.put i .dead).alloc (.cells ((l++m).flatMap enc) e false), ?_, .inr ⟨σ.n,qa1, [],rfl,hb,by simp,by simp,rfl, .inl rfl⟩,((qd3.refl _ _).putV rfl _).alloc _, .inr rfl⟩
    rw [qat (by rw [hf];rfl) hu,hf]
    simp only [qhk,g1,hfs,g2,Option.bind_some];unfold qau;rw [if_pos hcond];simp only [hm0,if_false,hg,if_true,and_self];rw [if_neg,if_pos hbig]
    ·have:ld (l.flatMap enc++zs) 0 (l.length*f.size)=some (l.flatMap enc):=by
      rw [hfs,←hll];unfold ld;rw [if_pos (by rw [List.length_append];omega),List.drop_zero,List.take_left]
     rw [this];simp
    ·rw [List.length_append,hll,hfs,Nat.add_mul];omega
  ·by_cases hm:m= []
   ·subst hm;obtain⟨g1,g2⟩:=qil hsz hx;have hcond:([]:List Value).length=0*f.size∧qc9 ([]:List Value)=true∧0<f.size∧0<f.bytes∧f.zero.map List.length=some f.size:=by
     rw [hfs];exact⟨by simp,rfl,h0,h1,h2⟩
    refine⟨.slice (some ⟨i,0,none⟩) 0 0,σ, ?_, .inr ⟨i,0, [],rfl,hbi,hin,hg,rfl, .inr ⟨rfl,rfl,rfl⟩⟩,qd3.refl _ _, .inl rfl⟩;rw [qat (by rw [hf];rfl) hu,hf]
    have g2':qcz σ sz 0 x=some []:=by simpa using g2
    simp only [qhk,g1,hfs,g2',Option.bind_some,List.flatMap_nil,List.length_nil];unfold qau;rw [if_pos hcond];simp
   ·have ho:Own b σ e enc (.slice (some ⟨i,0,none⟩) 0 0) ([]:List α):= .inr ⟨i,0,rfl,hbi,hin,by simpa using hg, .inr ⟨rfl,rfl⟩⟩
    obtain⟨v',σ',a1,a2,a3,a4,a5⟩:=qay hf hu hsz hc hfs h0 h1 h2 ho hb hx hbig hl;obtain⟨n,c,rfl⟩:=a5 hm;exact⟨_,σ',a1,a2.z,⟨a3.1,λj hj hne=>a4 j hj (λi' off n c h=>by cases h;exact λe=>hne (by rw [e];rfl))⟩, .inr rfl⟩
end
end Go.Sm
namespace Go.Sm
open Go Go.Sort
set_option maxRecDepth 100000
set_option maxHeartbeats 4000000
def qyb (e:TypeId) (k:Nat) (tr:Nat→List Value→Option (List Value)) (p:Option Addr) (n:Nat) (σ:CSt):Option (Value×CSt):=
 if n=0 then some (.tuple #[],σ) else match p with
  |some ⟨i,off,none⟩=>match σ.get i with
   |some (.cells row e' false)=>if e'=e∧off+n*k≤row.length∧n<2^61 then(tr n ((row.drop off).take (n*k))).map λvs=>(.tuple #[],σ.put i (.cells (row.take off++vs++row.drop (off+n*k)) e false)) else none
   |_=>none
  |_=>none
def qs2 (e:TypeId) (k:Nat) (tr:Nat→List Value→Option (List Value)) (args:Array Value) (σ:CSt):Option (Value×CSt):=
 match args with
 |⟨[.slice p n _]⟩=>qyb e k tr p n σ
 |_=>none
def qxq (g:FuncId) (e:TypeId) (k:Nat) (tr:Nat→List Value→Option (List Value)) (args:Array Value) (σ:CSt):Option (Value×CSt):=
 match args with
 |⟨[.slice p n _, .func (.func g') ⟨[]⟩ ⟨[]⟩]⟩=>if g'=g then qyb e k tr p n σ else none
 |_=>none
structure TrOk (P:Program) (f:FuncId) (k:Nat) (tr:Nat→List Value→Option (List Value)) (rest:List Value):Prop where
 body:∃fn,P.funcs[f]? =some fn∧fn.body.isSome=true
 none_:∀(p:Option Addr) (c:Nat) (w:World),Calls P f (.slice p 0 c::rest).toArray w λe w'=>e= .returned (.tuple #[])∧w'=w
 some_:∀(n:Nat) (vs vs':List Value),vs.length=n*k→n<2^61→tr n vs=some vs'→(∀v∈vs,qae v=true)∧(∀v∈vs',qae v=true)∧vs'.length=vs.length∧
  ∀(blk off c:Nat) (w:World),Holds id w blk off vs.toArray→blk<w.heap.size→Calls P f (.slice (some ⟨blk,off,none⟩) n c::rest).toArray w λe w'=>e= .returned (.tuple #[])∧∃m os,w'=grow (putRow id (Sort.ahead w m) blk off vs'.toArray) os
section
variable {P:Program} {f:FuncId} {e:TypeId} {k:Nat} {tr:Nat→List Value→Option (List Value)}
theorem qpl {p:Option Addr} {n:Nat} {σ σ':CSt} {v:Value} (h:qyb e k tr p n σ=some (v,σ')) (h0:n≠0):∃i off row vs',p=some ⟨i,off,none⟩∧σ.get i=some (.cells row e false)∧off+n*k≤row.length∧n<2^61∧tr n ((row.drop off).take (n*k))=some vs'∧v= .tuple #[]∧σ'=σ.put i (.cells (row.take off++vs'++row.drop (off+n*k)) e false):=by
 unfold qyb at h;rw [if_neg h0] at h;split at h
 ·split at h
  ·rename_i hg;split at h
   ·rename_i hc;obtain⟨vs,h1,h2⟩:=Option.map_eq_some_iff.1 h;cases h2;obtain⟨rfl,h3,h4⟩:=hc;exact⟨_,_,_,_,rfl,hg,h3,h4,h1,rfl,rfl⟩
   ·cases h
  ·cases h
 ·cases h
theorem qq6 {p:Option Addr} {σ σ':CSt} {v:Value} (h:qyb e k tr p 0 σ=some (v,σ')):v= .tuple #[]∧σ'=σ:=by
 unfold qyb at h;rw [if_pos rfl] at h;cases h;exact⟨rfl,rfl⟩
theorem qv4 (H:TrOk P f k tr []) {args:Array Value} {σ σ':CSt} {v:Value} (h:qs2 e k tr args σ=some (v,σ')) {Q:Out→CSt→Prop} (hq:Q (.ret v false) σ'):qfe P f args none σ Q:=by
 unfold qs2 at h;split at h
 ·rename_i p n c;by_cases h0:n=0
  ·subst h0;obtain⟨rfl,rfl⟩:=qq6 h;exact row_gam0 H.body H.none_ hq
  ·obtain⟨i,off,row,vs',rfl,hg,h1,h2,h3,rfl,rfl⟩:=qpl h h0;have hl:((row.drop off).take (n*k)).length=n*k:=by rw [List.length_take,List.length_drop];omega
   obtain⟨a,b,d,g⟩:=H.some_ n _ _ hl h2 h3;rw [←hl] at hq;exact row_gam1 H.body (vs:=(row.drop off).take (n*k)) (vs':=vs') g hg (by rw [hl]) (by rw [hl];exact h1) h0 a b d hq
 ·cases h
theorem qv0 {g:FuncId} (H:TrOk P f k tr [.func (.func g) #[] #[]]) {args:Array Value} {σ σ':CSt} {v:Value} (h:qxq g e k tr args σ=some (v,σ')) {Q:Out→CSt→Prop} (hq:Q (.ret v false) σ'):qfe P f args none σ Q:=by
 unfold qxq at h;split at h
 ·rename_i p n c g';split at h
  ·rename_i hgg;subst hgg;by_cases h0:n=0
   ·subst h0;obtain⟨rfl,rfl⟩:=qq6 h;exact zb2 H.body H.none_ hq
   ·obtain⟨i,off,row,vs',rfl,hg,h1,h2,h3,rfl,rfl⟩:=qpl h h0;have hl:((row.drop off).take (n*k)).length=n*k:=by rw [List.length_take,List.length_drop];omega
    obtain⟨a,b,d,g⟩:=H.some_ n _ _ hl h2 h3;rw [←hl] at hq;exact row_gam2 H.body (vs:=(row.drop off).take (n*k)) (vs':=vs') g hg (by rw [hl]) (by rw [hl];exact h1) h0 a b d hq
  ·cases h
 ·cases h
theorem qku {α:Type} {enc:α→List Value} (hk:∀x,(enc x).length=k) {l l':List α} (ht:tr l.length (l.flatMap enc)=some (l'.flatMap enc)) (hlen:l'.length=l.length) (hbig:l.length<2^61) {b:Nat} {σ:CSt} {v:Value} (hb:b≤σ.n) (h:qbj b σ e enc v l):
  ∃p c σ',v= .slice p l.length c∧qyb e k tr p l.length σ=some (.tuple #[],σ')∧qbj b σ' e enc v l'∧qbx b σ σ'∧(Own b σ e enc v l→Own b σ' e enc v l'):=by
 rcases h with⟨rfl,rfl⟩|⟨i,cap,zs,rfl,hbi,hin,hg,hzs,hcap⟩
 ·have:l'= []:=List.eq_nil_of_length_eq_zero hlen;subst this;exact⟨none,0,σ,rfl,rfl,qbj.nil,qbx.refl b σ,λ_=>Own.nil⟩
 ·by_cases h0:l.length=0
  ·have e1:l= []:=List.eq_nil_of_length_eq_zero h0;have e2:l'= []:=List.eq_nil_of_length_eq_zero (hlen.trans h0);subst e1 e2;exact⟨_,_,σ,rfl,rfl, .inr ⟨i,cap,zs,rfl,hbi,hin,hg,hzs,hcap⟩,qbx.refl b σ,λh=>h⟩
  ·have hll:=qa5 enc hk l;have hll':=qa5 enc hk l';have e1:((l.flatMap enc++zs).drop 0).take (l.length*k)=l.flatMap enc:=by rw [List.drop_zero,←hll,List.take_left]
   have e2:(l.flatMap enc++zs).drop (0+l.length*k)=zs:=by rw [Nat.zero_add,←hll,List.drop_left]
   have hz:qbj b (σ.put i (.cells (l'.flatMap enc++zs) e false)) e enc (.slice (some ⟨i,0,none⟩) l.length cap) l':= .inr ⟨i,cap,zs,by rw [hlen],hbi,hin,by simp,hzs,by
    rcases hcap with h1|⟨h1,h2⟩
    ·exact .inl h1
    ·exact absurd (by rw [h1];rfl) h0⟩
   refine⟨some ⟨i,0,none⟩,cap,σ.put i (.cells (l'.flatMap enc++zs) e false),rfl, ?_,hz,⟨Nat.le_refl _,λj hj=>by rw [CSt.get_put,if_neg (by omega)]⟩,λho=> ?_⟩
   ·unfold qyb;rw [if_neg h0];simp only [hg];rw [if_pos ⟨trivial,by rw [List.length_append,hll];omega,hbig⟩,e1,e2,ht]
    simp
   ·rcases ho with⟨h1,h2⟩|⟨i',cap',h1,h2,h3,h4,h5⟩
    ·exact absurd (by rw [h2];rfl) h0
    ·cases h1;have hzs:zs= []:=by
      rw [hg] at h4;have:=congrArg (λo:Option CObj=>match o with|some (.cells r _ _)=>r.length|_=>0) h4
      simp at this;exact this
     subst hzs;refine .inr ⟨i,cap,by rw [hlen],hbi,hin,by simp, ?_⟩
     rcases hcap with h1|⟨h1,h2⟩
     ·exact .inl h1
     ·exact absurd (by rw [h1];rfl) h0
end
def strs:List Value→Option (List ByteArray)
 | []=>some []
 | .string s::l=>(strs l).map (s::·)
 |_=>none
def ints:List Value→Option (List Int)
 | []=>some []
 | .int .i64 n::l=>(ints l).map (n::·)
 |_=>none
def srtS (l:List ByteArray):List ByteArray:=((l.map λs=>s.data.toList).mergeSort λx y=>decide (x≤y)).map λb=>⟨b.toArray⟩
def srtI (l:List Int):List Int:=l.mergeSort λx y=>decide (x≤y)
def qri (_:Nat) (vs:List Value):Option (List Value):=(strs vs).map λl=>(srtS l).map .string
def qsr (_:Nat) (vs:List Value):Option (List Value):=(ints vs).map λl=>(srtI l).map (.int .i64)
theorem qqi:∀{vs:List Value} {l:List ByteArray},strs vs=some l→vs=l.map .string
 | [],l,h=>by cases h;rfl
 | .string s::vs,l,h=>by
  obtain⟨l',h1,rfl⟩:=Option.map_eq_some_iff.1 h;rw [qqi h1];rfl
 | .bool _::_,_,h=>by cases h
 | .int _ _::_,_,h=>by cases h
 | .float _ _::_,_,h=>by cases h
 | .complex _ _ _::_,_,h=>by cases h
 | .pointer _::_,_,h=>by cases h
 | .slice _ _ _::_,_,h=>by cases h
 | .map _::_,_,h=>by cases h
 | .chan _::_,_,h=>by cases h
 | .nilFunc::_,_,h=>by cases h
 | .func _ _ _::_,_,h=>by cases h
 | .nilIface::_,_,h=>by cases h
 | .iface _ _::_,_,h=>by cases h
 | .agg _::_,_,h=>by cases h
 | .tuple _::_,_,h=>by cases h
theorem zbg:∀{vs:List Value} {l:List Int},ints vs=some l→vs=l.map (.int .i64):=by
 intro vs
 induction vs with
 |nil=>intro l h;cases h;rfl
 |cons v vs ih=>
  intro l h;unfold ints at h;split at h
  ·rename_i e;cases e
  ·rename_i e;cases e;obtain⟨l',h1,rfl⟩:=Option.map_eq_some_iff.1 h;rw [ih h1];rfl
  ·cases h
theorem strs_of (l:List ByteArray):strs (l.map .string)=some l:=by
 induction l with
 |nil=>rfl
 |cons s l ih=>simp [strs,ih]
theorem ints_of (l:List Int):ints (l.map (.int .i64))=some l:=by
 induction l with
 |nil=>rfl
 |cons s l ih=>simp [ints,ih]
theorem klt_le {x y:ByteArray}:klt y x=false↔x.data.toList≤y.data.toList:=by
 unfold klt bl;rw [Proofs.bytesLess_eq,decide_eq_false_iff_not,ByteArray.toList_eq,ByteArray.toList_eq];exact Iff.rfl
theorem qlm (l:List ByteArray):(srtS l).Perm l:=by
 unfold srtS;refine((List.mergeSort_perm _ _).map _).trans ?_;rw [List.map_map];have:((λb:List UInt8=>(⟨b.toArray⟩:ByteArray))∘λs:ByteArray=>s.data.toList)=id:=by funext s;rfl
 rw [this,List.map_id]
theorem qrz (l:List ByteArray):(srtS l).Pairwise λx y=>klt y x=false:=by
 unfold srtS;rw [List.pairwise_map];refine(List.pairwise_mergeSort (λa b c h1 h2=> ?_) (λa b=> ?_) _).imp fun {a b} h=> ?_
 ·simp only [decide_eq_true_eq] at*;exact List.le_trans h1 h2
 ·simp only [Bool.or_eq_true,decide_eq_true_eq];exact List.le_total a b
 ·exact klt_le.2 (by simpa using h)
theorem qlz (l:List Int):(srtI l).Perm l:=List.mergeSort_perm _ _
theorem qu2 (l:List Int):(srtI l).Pairwise λx y=>x≤y:=by
 unfold srtI;refine(List.pairwise_mergeSort (λa b c h1 h2=> ?_) (λa b=> ?_) l).imp fun {a b} h=> ?_
 ·simp only [decide_eq_true_eq] at*;omega
 ·simp only [Bool.or_eq_true,decide_eq_true_eq];omega
 ·simpa using h
structure Kr (k:Nat) (B:Int→Bool) where
 n:Int
 rest:List Value
 b:B n=true
 len:rest.length+1=k
 fl:∀v∈rest,qae v=true
section
variable {k:Nat} {B:Int→Bool}
def qes (x:Kr k B):List Value:= .int .u64 x.n::x.rest
theorem qsj (x:Kr k B):(qes x).length=k:=by simp [qes,x.len]
def zam (k:Nat) (B:Int→Bool):List Value→Option (Kr k B)
 | .int .u64 n::rest=>if h:B n=true∧rest.length+1=k∧∀v∈rest,qae v=true then some ⟨n,rest,h.1,h.2.1,h.2.2⟩ else none
 |_=>none
def qqm (k:Nat) (B:Int→Bool):Nat→List Value→Option (List (Kr k B))
 |0,vs=>if vs.length=0 then some [] else none
 |n+1,vs=>(zam k B (vs.take k)).bind λx=>(qqm k B n (vs.drop k)).map (x::·)
theorem qx8 {r:List Value} {x:Kr k B} (h:zam k B r=some x):r=qes x:=by
 unfold zam at h;split at h
 ·split at h
  ·cases h;rfl
  ·cases h
 ·cases h
theorem headK_of (x:Kr k B):zam k B (qes x)=some x:=by
 unfold zam qes;simp only;rw [dif_pos ⟨x.b,x.len,x.fl⟩]
theorem qnh:∀{n:Nat} {vs:List Value} {l:List (Kr k B)},qqm k B n vs=some l→vs=l.flatMap qes∧l.length=n
 |0,vs,l,h=>by
  unfold qqm at h;split at h
  ·rename_i h0;cases h;exact⟨List.eq_nil_of_length_eq_zero h0,rfl⟩
  ·cases h
 |n+1,vs,l,h=>by
  unfold qqm at h;obtain⟨x,h1,h2⟩:=Option.bind_eq_some_iff.1 h;obtain⟨l',h3,rfl⟩:=Option.map_eq_some_iff.1 h2;obtain⟨h4,h5⟩:=qnh h3;refine⟨?_,by simp [h5]⟩
  rw [List.flatMap_cons,←h4,←qx8 h1,List.take_append_drop]
theorem qvd:∀l:List (Kr k B),qqm k B l.length (l.flatMap qes)=some l
 | []=>by simp [qqm]
 |x::l=>by
  have ih:=qvd l;rw [List.length_cons];unfold qqm;rw [List.flatMap_cons,List.take_left' (qsj x),List.drop_left' (qsj x),headK_of,ih]
  rfl
instance:Inhabited (Option (Kr k B)):=⟨none⟩
structure Cmp (cf:Kr k B→Kr k B→Int):Prop where
 lt:∀x y,cf x y<0↔x.n<y.n
theorem Cmp.swo {cf:Kr k B→Kr k B→Int} (h:Cmp cf):SWO (Proofs.ltOf cf) where
 irrefl:=λx=>by simp [Proofs.ltOf,h.lt]
 trans:=λx y z=>by simp [Proofs.ltOf,h.lt];omega
 ntrans:=λx y z=>by simp [Proofs.ltOf,h.lt];omega
def pdqL [Inhabited (Kr k B)] (cf:Kr k B→Kr k B→Int) (l:List (Kr k B)):List (Kr k B):=(pdq (Proofs.ltOf cf) l.toArray 0 l.length (Lib.bitLen l.length) true true).toList
noncomputable def trK (cf:Kr k B→Kr k B→Int) (n:Nat) (vs:List Value):Option (List Value):=(qqm k B n vs).map λl=>match l with
 | []=> []
 |x::l'=>letI:Inhabited (Kr k B):=⟨x⟩
  (pdqL cf (x::l')).flatMap qes
theorem qq8 [Inhabited (Kr k B)] {cf:Kr k B→Kr k B→Int} (h:Cmp cf) (l:List (Kr k B)):(pdqL cf l).Perm l∧(pdqL cf l).Pairwise λx y=>x.n≤y.n:=by
 have hs:=pdq_sorts (Proofs.ltOf cf) h.swo l.toArray 0 l.length (Lib.bitLen l.length) true true (Nat.zero_le _) (by simp) (Or.inl rfl)
 unfold pdqL;generalize pdq (Proofs.ltOf cf) l.toArray 0 l.length (Lib.bitLen l.length) true true=d' at hs⊢;obtain⟨hp,hq⟩:=hs;have h1:=hp.2.2;have e1:l.toArray.extract 0 l.length=l.toArray:=by rw [show l.length=l.toArray.size by simp];simp
 have hsz:d'.size=l.length:=by have:=hp.1;simpa using this
 have e2:d'.extract 0 l.length=d':=by rw [←hsz];simp
 rw [e1,e2] at h1;refine⟨by simpa using h1, ?_⟩
 rw [List.pairwise_iff_getElem];intro i j hi hj hij;have:=hq i j (Nat.zero_le _) hij (by simpa [hsz] using hj)
 rw [getElem!_pos d' i (by simpa using hi),getElem!_pos d' j (by simpa using hj)] at this
 simp [Proofs.ltOf,h.lt] at this;simpa using this
theorem qpz {α β:Type} {f:α→β}:∀{p:List β} {l:List α},p.Perm (l.map f)→∃l':List α,l'.Perm l∧p=l'.map f:=by
 intro p l h;generalize hm:l.map f=m at h
 induction h generalizing l with
 |nil=>
  have:l= []:=by simpa using hm
  subst this;exact⟨[], .refl _,rfl⟩
 |cons x h ih=>
  cases l with
  |nil=>cases hm
  |cons y l=>
   simp only [List.map_cons,List.cons.injEq] at hm;obtain⟨rfl,hm⟩:=hm;obtain⟨l',h1,h2⟩:=ih hm;exact⟨y::l',h1.cons y,by rw [List.map_cons,h2]⟩
 |swap x y t=>
  match l,hm with
  |a::b::l,hm=>
   simp only [List.map_cons,List.cons.injEq] at hm;obtain⟨rfl,rfl,rfl⟩:=hm;exact⟨b::a::l, .swap _ _ _,rfl⟩
 |trans h1 h2 ih1 ih2=>
  obtain⟨l1,a1,a2⟩:=ih2 hm;obtain⟨l2,b1,b2⟩:=ih1 a2.symm;exact⟨l2,b1.trans a1,b2⟩
theorem trK_of {α:Type} {enc:α→List Value} {key:α→Int} (tz:α→Kr k B) (h1:∀x,qes (tz x)=enc x) (h2:∀x,(tz x).n=key x) {cf:Kr k B→Kr k B→Int} (h:Cmp cf) (l:List α):
  ∃l':List α,trK cf l.length (l.flatMap enc)=some (l'.flatMap enc)∧l'.Perm l∧l'.Pairwise λx y=>key x≤key y:=by
 have hfl:∀m:List α,(m.map tz).flatMap qes=m.flatMap enc:=λm=>by
  rw [List.flatMap_map]
  congr 1
  funext x;exact h1 x
 have hr:=qvd (l.map tz);rw [hfl,List.length_map] at hr;unfold trK;rw [hr];cases l with
 |nil=>exact⟨[],rfl, .refl _,List.Pairwise.nil⟩
 |cons x l=>
  letI:Inhabited (Kr k B):=⟨tz x⟩
  obtain⟨p1,p2⟩:=qq8 h ((x::l).map tz);obtain⟨l',q1,q2⟩:=qpz p1;refine⟨l', ?_,q1, ?_⟩
  ·rw [←hfl,←q2]
   rfl
  ·rw [q2,List.pairwise_map] at p2;exact p2.imp fun {a b} h=>by rw [h2,h2] at h;exact h
end
end Go.Sm
namespace Go.Sm
open Go
set_option maxRecDepth 100000
set_option maxHeartbeats 4000000
def cfC (x y:Kr 2 λ_=>true):Int:=if x.n<y.n then-1 else if y.n<x.n then 1 else 0
def B40 (n:Int):Bool:=decide (0≤n∧n≤2^40)
def cfD (x y:Kr 3 B40):Int:=x.n-y.n
theorem cmpC:Cmp cfC:=⟨λx y=>by
 unfold cfC;split
 ·simp_all
 ·split<;>simp_all⟩
theorem cmpD:Cmp cfD:=⟨λx y=>by unfold cfD;omega⟩
def itoaG (args:Array Value) (σ:CSt):Option (Value×CSt):=
 match args with
 |⟨[.int .i64 n]⟩=>if 0≤n∧n<100 then some (.string ⟨(Lib.decDigits n.toNat).toArray⟩,σ) else none
 |_=>none
end Go.Sm
namespace Go.Sm
open Go Go.Proofs
set_option maxRecDepth 100000
set_option maxHeartbeats 4000000
def extE:FuncId→Array Value→CSt→Option Value
 |227=>qmu 267
 |262=>qmu 40
 |_=>λ_ _=>none
def gamI:FuncId→Option (Array Value→CSt→Option (Value×CSt))
 |166=>some (qvl 267 2 40)
 |229=>some (qvl 40 3 32)
 |_=>none
def gnone:CSt→Prop:=fun σ=>σ.get 0=some (.cells [.int .u64 1, .int .u64 0] 0 true)
open Classical in
noncomputable def qn3 (args:Array Value) (σ:CSt):Option (Value×CSt):=if args= #[]∧gnone σ then some (.bool true,σ) else none
def repS (s:ByteArray) (n:Nat):ByteArray:=⟨((List.replicate n s.data.toList).flatten).toArray⟩
def repG (args:Array Value) (σ:CSt):Option (Value×CSt):=
 match args with
 |⟨[.string s, .int .i64 c]⟩=>if 0≤c∧c<2^62∧s.size*c.toNat≤2^47 then some (.string (repS s c.toNat),σ) else none
 |_=>none
noncomputable def gamL:FuncId→Option (Array Value→CSt→Option (Value×CSt))
 |166=>some (qvl 267 2 40)
 |229=>some (qvl 40 3 32)
 |16=>some qn3
 |33=>some qn3
 |19=>some repG
 |180=>some (qs2 9 1 qri)
 |153=>some (qs2 3 1 qsr)
 |190=>some (qxq 191 97 2 (trK cfC))
 |207=>some (qxq 208 40 3 (trK cfD))
 |123=>some (itoaG)
 |_=>none
noncomputable def E0:Env:=⟨Tryz.prog,λ_=>none,extE,λ_=>none⟩
noncomputable def EV:Env:=⟨Tryz.prog,gamI,extE,λ_=>none⟩
noncomputable def E1:Env:=⟨Tryz.prog,gamL,extE,λ_=>none⟩
@[simp] theorem E0P:E0.P=Tryz.prog:=rfl
@[simp] theorem E1P:E1.P=Tryz.prog:=rfl
@[simp] theorem E0X:E0.ext=extE:=rfl
@[simp] theorem E1X:E1.ext=extE:=rfl
attribute [simp] extE
theorem qef {E:Env} {g:FuncId} {fs cs args:Array Value} {σ:CSt} (h:E.ext g args σ=none):qcr E (.func (.func g) fs cs) args σ=none:=by
 unfold qcr;split
 ·rename_i g' he;cases he;exact h
 ·rfl
@[simp] theorem qui {E:Env} {g:FuncId} {args:Array Value} {σ:CSt}:qcr E (.func (.func g) #[] #[]) args σ=E.ext g args σ:=rfl
@[simp] theorem extOf_cl {E:Env} {g:FuncId} {fs:Array Value} {c:Value} {l:List Value} {args:Array Value} {σ:CSt}:qcr E (.func (.func g) fs ⟨c::l⟩) args σ=none:=by
 unfold qcr;split
 ·rename_i g' he;cases he
 ·rfl
@[simp] theorem tf3:tf Tryz.prog 3=some ⟨1,8,(some [.int .i64 0]),false,true⟩:=by kernel_rfl
@[simp] theorem it3:intT Tryz.prog 3=some .i64:=by kernel_rfl
@[simp] theorem tf4:tf Tryz.prog 4=some ⟨1,1,(some [.bool false]),false,true⟩:=by kernel_rfl
@[simp] theorem tf5:tf Tryz.prog 5=some ⟨1,1,(some [.int .u8 0]),false,true⟩:=by kernel_rfl
@[simp] theorem tf9:tf Tryz.prog 9=some ⟨1,16,(some [.string ⟨#[]⟩]),false,true⟩:=by kernel_rfl
@[simp] theorem st9:strT Tryz.prog 9=true:=by kernel_rfl
@[simp] theorem tf22:tf Tryz.prog 22=some ⟨1,8,(some [.int .u64 0]),false,true⟩:=by kernel_rfl
@[simp] theorem it22:intT Tryz.prog 22=some .u64:=by kernel_rfl
@[simp] theorem tf40:tf Tryz.prog 40=some ⟨3,32,(some [.int .u64 0, .string ⟨#[]⟩, .bool false]),true,true⟩:=by kernel_rfl
@[simp] theorem fo40_0:qb0 Tryz.prog 40 0=some 0:=by kernel_rfl
@[simp] theorem fo40_1:qb0 Tryz.prog 40 1=some 1:=by kernel_rfl
@[simp] theorem fo40_2:qb0 Tryz.prog 40 2=some 2:=by kernel_rfl
@[simp] theorem pa40:qeb Tryz.prog 40=some [(0,1),(1,1),(2,1)]:=by kernel_rfl
@[simp] theorem tf49:tf Tryz.prog 49=some ⟨1,24,(some [.slice none 0 0]),false,true⟩:=by kernel_rfl
@[simp] theorem el49:qbo Tryz.prog 49=some 3:=by kernel_rfl
@[simp] theorem ef49:qc6 Tryz.prog 49=some (3,⟨1,8,(some [.int .i64 0]),false,true⟩):=by kernel_rfl
@[simp] theorem tf58:tf Tryz.prog 58=some ⟨1,8,(some [.map none]),false,true⟩:=by kernel_rfl
@[simp] theorem el64:qbo Tryz.prog 64=some 70:=by kernel_rfl
@[simp] theorem tf68:tf Tryz.prog 68=some ⟨1,2,(some [.int .u16 0]),false,true⟩:=by kernel_rfl
@[simp] theorem tf70:tf Tryz.prog 70=some ⟨6,8,(some [.int .u8 0, .int .u8 0, .int .u8 0, .int .u8 0, .int .u8 0, .int .u16 0]),true,true⟩:=by kernel_rfl
@[simp] theorem fo70_0:qb0 Tryz.prog 70 0=some 0:=by kernel_rfl
@[simp] theorem fo70_1:qb0 Tryz.prog 70 1=some 1:=by kernel_rfl
@[simp] theorem fo70_2:qb0 Tryz.prog 70 2=some 2:=by kernel_rfl
@[simp] theorem fo70_3:qb0 Tryz.prog 70 3=some 3:=by kernel_rfl
@[simp] theorem fo70_4:qb0 Tryz.prog 70 4=some 4:=by kernel_rfl
@[simp] theorem fo70_5:qb0 Tryz.prog 70 5=some 5:=by kernel_rfl
@[simp] theorem tf73:tf Tryz.prog 73=some ⟨1,8,(some [.pointer none]),false,true⟩:=by kernel_rfl
@[simp] theorem tf78:tf Tryz.prog 78=some ⟨1,24,(some [.slice none 0 0]),false,true⟩:=by kernel_rfl
@[simp] theorem el78:qbo Tryz.prog 78=some 99:=by kernel_rfl
@[simp] theorem ef78:qc6 Tryz.prog 78=some (99,⟨5,56,(some [.int .i64 0, .string ⟨#[]⟩, .string ⟨#[]⟩, .int .u64 0, .int .u64 0]),true,true⟩):=by kernel_rfl
@[simp] theorem tf79:tf Tryz.prog 79=some ⟨1,8,(some [.pointer none]),false,true⟩:=by kernel_rfl
@[simp] theorem fo81_0:qb0 Tryz.prog 81 0=some 0:=by kernel_rfl
@[simp] theorem tf82:tf Tryz.prog 82=some ⟨1,8,(some [.map none]),false,true⟩:=by kernel_rfl
@[simp] theorem tf83:tf Tryz.prog 83=some ⟨1,8,(some [.map none]),false,true⟩:=by kernel_rfl
@[simp] theorem tf85:tf Tryz.prog 85=some ⟨6,64,(some [.pointer none, .slice none 0 0, .int .u64 0, .int .i64 0, .map none, .map none]),true,true⟩:=by kernel_rfl
@[simp] theorem fo85_0:qb0 Tryz.prog 85 0=some 0:=by kernel_rfl
@[simp] theorem fo85_1:qb0 Tryz.prog 85 1=some 1:=by kernel_rfl
@[simp] theorem fo85_2:qb0 Tryz.prog 85 2=some 2:=by kernel_rfl
@[simp] theorem fo85_3:qb0 Tryz.prog 85 3=some 3:=by kernel_rfl
@[simp] theorem fo85_4:qb0 Tryz.prog 85 4=some 4:=by kernel_rfl
@[simp] theorem fo85_5:qb0 Tryz.prog 85 5=some 5:=by kernel_rfl
@[simp] theorem pa85:qeb Tryz.prog 85=some [(0,1),(1,1),(2,1),(3,1),(4,1),(5,1)]:=by kernel_rfl
@[simp] theorem el91:qbo Tryz.prog 91=some 196:=by kernel_rfl
@[simp] theorem ef91:qc6 Tryz.prog 91=some (196,⟨2,32,(some [.string ⟨#[]⟩, .string ⟨#[]⟩]),true,true⟩):=by kernel_rfl
@[simp] theorem tf97:tf Tryz.prog 97=some ⟨2,16,(some [.int .u64 0, .int .u64 0]),true,true⟩:=by kernel_rfl
@[simp] theorem fo97_0:qb0 Tryz.prog 97 0=some 0:=by kernel_rfl
@[simp] theorem fo97_1:qb0 Tryz.prog 97 1=some 1:=by kernel_rfl
@[simp] theorem pa97:qeb Tryz.prog 97=some [(0,1),(1,1)]:=by kernel_rfl
@[simp] theorem tf99:tf Tryz.prog 99=some ⟨5,56,(some [.int .i64 0, .string ⟨#[]⟩, .string ⟨#[]⟩, .int .u64 0, .int .u64 0]),true,true⟩:=by kernel_rfl
@[simp] theorem fo99_0:qb0 Tryz.prog 99 0=some 0:=by kernel_rfl
@[simp] theorem fo99_1:qb0 Tryz.prog 99 1=some 1:=by kernel_rfl
@[simp] theorem fo99_2:qb0 Tryz.prog 99 2=some 2:=by kernel_rfl
@[simp] theorem fo99_3:qb0 Tryz.prog 99 3=some 3:=by kernel_rfl
@[simp] theorem pa99:qeb Tryz.prog 99=some [(0,1),(1,1),(2,1),(3,2)]:=by kernel_rfl
@[simp] theorem tf101:tf Tryz.prog 101=some ⟨1,8,(some [.map none]),false,true⟩:=by kernel_rfl
@[simp] theorem el103:qbo Tryz.prog 103=some 40:=by kernel_rfl
@[simp] theorem ef103:qc6 Tryz.prog 103=some (40,⟨3,32,(some [.int .u64 0, .string ⟨#[]⟩, .bool false]),true,true⟩):=by kernel_rfl
@[simp] theorem tf104:tf Tryz.prog 104=some ⟨1,8,(some [.map none]),false,true⟩:=by kernel_rfl
@[simp] theorem tf105:tf Tryz.prog 105=some ⟨1,24,(some [.slice none 0 0]),false,true⟩:=by kernel_rfl
@[simp] theorem el105:qbo Tryz.prog 105=some 22:=by kernel_rfl
@[simp] theorem ef105:qc6 Tryz.prog 105=some (22,⟨1,8,(some [.int .u64 0]),false,true⟩):=by kernel_rfl
@[simp] theorem tf107:tf Tryz.prog 107=some ⟨6,80,(some [.map none, .slice none 0 0, .int .u64 0, .int .i64 0, .map none, .slice none 0 0]),true,true⟩:=by kernel_rfl
@[simp] theorem fo107_0:qb0 Tryz.prog 107 0=some 0:=by kernel_rfl
@[simp] theorem fo107_1:qb0 Tryz.prog 107 1=some 1:=by kernel_rfl
@[simp] theorem fo107_2:qb0 Tryz.prog 107 2=some 2:=by kernel_rfl
@[simp] theorem fo107_3:qb0 Tryz.prog 107 3=some 3:=by kernel_rfl
@[simp] theorem fo107_4:qb0 Tryz.prog 107 4=some 4:=by kernel_rfl
@[simp] theorem fo107_5:qb0 Tryz.prog 107 5=some 5:=by kernel_rfl
@[simp] theorem pa107:qeb Tryz.prog 107=some [(0,1),(1,1),(2,1),(3,1),(4,1),(5,1)]:=by kernel_rfl
@[simp] theorem tf111:tf Tryz.prog 111=some ⟨1,8,(some [.map none]),false,true⟩:=by kernel_rfl
@[simp] theorem tf113:tf Tryz.prog 113=some ⟨4,32,(some [.bool false, .int .u64 0, .int .u64 0, .map none]),true,true⟩:=by kernel_rfl
@[simp] theorem fo113_0:qb0 Tryz.prog 113 0=some 0:=by kernel_rfl
@[simp] theorem fo113_1:qb0 Tryz.prog 113 1=some 1:=by kernel_rfl
@[simp] theorem fo113_2:qb0 Tryz.prog 113 2=some 2:=by kernel_rfl
@[simp] theorem fo113_3:qb0 Tryz.prog 113 3=some 3:=by kernel_rfl
@[simp] theorem pa113:qeb Tryz.prog 113=some [(0,1),(1,1),(2,1),(3,1)]:=by kernel_rfl
@[simp] theorem tf119:tf Tryz.prog 119=some ⟨1,24,(some [.slice none 0 0]),false,true⟩:=by kernel_rfl
@[simp] theorem el119:qbo Tryz.prog 119=some 9:=by kernel_rfl
@[simp] theorem ef119:qc6 Tryz.prog 119=some (9,⟨1,16,(some [.string ⟨#[]⟩]),false,true⟩):=by kernel_rfl
@[simp] theorem tf142:tf Tryz.prog 142=some ⟨1,8,(some [.int .i64 0]),false,true⟩:=by kernel_rfl
@[simp] theorem tf144:tf Tryz.prog 144=some ⟨4,32,(some [.int .i64 0, .int .u64 0, .int .u64 0, .map none]),true,true⟩:=by kernel_rfl
@[simp] theorem fo144_0:qb0 Tryz.prog 144 0=some 0:=by kernel_rfl
@[simp] theorem fo144_1:qb0 Tryz.prog 144 1=some 1:=by kernel_rfl
@[simp] theorem fo144_2:qb0 Tryz.prog 144 2=some 3:=by kernel_rfl
@[simp] theorem pa144:qeb Tryz.prog 144=some [(0,1),(1,2),(3,1)]:=by kernel_rfl
@[simp] theorem it145:intT Tryz.prog 145=some .u64:=by kernel_rfl
@[simp] theorem tf191:tf Tryz.prog 191=some ⟨1,24,(some [.slice none 0 0]),false,true⟩:=by kernel_rfl
@[simp] theorem el191:qbo Tryz.prog 191=some 40:=by kernel_rfl
@[simp] theorem ef191:qc6 Tryz.prog 191=some (40,⟨3,32,(some [.int .u64 0, .string ⟨#[]⟩, .bool false]),true,true⟩):=by kernel_rfl
@[simp] theorem tf196:tf Tryz.prog 196=some ⟨2,32,(some [.string ⟨#[]⟩, .string ⟨#[]⟩]),true,true⟩:=by kernel_rfl
@[simp] theorem pa196:qeb Tryz.prog 196=some [(0,1),(1,1)]:=by kernel_rfl
@[simp] theorem el198:qbo Tryz.prog 198=some 97:=by kernel_rfl
@[simp] theorem ef198:qc6 Tryz.prog 198=some (97,⟨2,16,(some [.int .u64 0, .int .u64 0]),true,true⟩):=by kernel_rfl
@[simp] theorem el199:qbo Tryz.prog 199=some 97:=by kernel_rfl
@[simp] theorem ef199:qc6 Tryz.prog 199=some (97,⟨2,16,(some [.int .u64 0, .int .u64 0]),true,true⟩):=by kernel_rfl
@[simp] theorem tf206:tf Tryz.prog 206=some ⟨0,0,(some []),true,true⟩:=by kernel_rfl
@[simp] theorem pa206:qeb Tryz.prog 206=some []:=by kernel_rfl
@[simp] theorem tf265:tf Tryz.prog 265=some ⟨1,24,(some [.slice none 0 0]),false,true⟩:=by kernel_rfl
@[simp] theorem el265:qbo Tryz.prog 265=some 267:=by kernel_rfl
@[simp] theorem ef265:qc6 Tryz.prog 265=some (267,⟨2,40,(some [.string ⟨#[]⟩, .slice none 0 0]),true,true⟩):=by kernel_rfl
@[simp] theorem tf267:tf Tryz.prog 267=some ⟨2,40,(some [.string ⟨#[]⟩, .slice none 0 0]),true,true⟩:=by kernel_rfl
@[simp] theorem fo267_0:qb0 Tryz.prog 267 0=some 0:=by kernel_rfl
@[simp] theorem fo267_1:qb0 Tryz.prog 267 1=some 1:=by kernel_rfl
@[simp] theorem pa267:qeb Tryz.prog 267=some [(0,1),(1,1)]:=by kernel_rfl
@[simp] theorem tf269:tf Tryz.prog 269=some ⟨1,24,(some [.slice none 0 0]),true,true⟩:=by kernel_rfl
@[simp] theorem fo269_0:qb0 Tryz.prog 269 0=some 0:=by kernel_rfl
@[simp] theorem pa269:qeb Tryz.prog 269=some [(0,1)]:=by kernel_rfl
attribute [simp] Tryz.func9
attribute [simp] Tryz.func16
attribute [simp] Tryz.func18
attribute [simp] Tryz.func19
attribute [simp] Tryz.func20
attribute [simp] Tryz.func23
attribute [simp] Tryz.func24
attribute [simp] Tryz.func26
attribute [simp] Tryz.func32
attribute [simp] Tryz.func33
attribute [simp] Tryz.func34
attribute [simp] Tryz.func35
attribute [simp] Tryz.func36
attribute [simp] Tryz.func37
attribute [simp] Tryz.func38
attribute [simp] Tryz.func39
attribute [simp] Tryz.func40
attribute [simp] Tryz.func41
attribute [simp] Tryz.func42
attribute [simp] Tryz.func43
attribute [simp] Tryz.func44
attribute [simp] Tryz.func45
attribute [simp] Tryz.func46
attribute [simp] Tryz.func47
attribute [simp] Tryz.func48
attribute [simp] Tryz.func49
attribute [simp] Tryz.func50
attribute [simp] Tryz.func52
attribute [simp] Tryz.func55
attribute [simp] Tryz.func56
attribute [simp] Tryz.func57
attribute [simp] Tryz.func58
attribute [simp] Tryz.func59
attribute [simp] Tryz.func60
attribute [simp] Tryz.func67
attribute [simp] Tryz.func68
attribute [simp] Tryz.func69
attribute [simp] Tryz.func70
attribute [simp] Tryz.func71
attribute [simp] Tryz.func72
attribute [simp] Tryz.func73
attribute [simp] Tryz.func74
attribute [simp] Tryz.func75
attribute [simp] Tryz.func82
attribute [simp] Tryz.func83
attribute [simp] Tryz.func84
attribute [simp] Tryz.func91
attribute [simp] Tryz.func92
attribute [simp] Tryz.func93
attribute [simp] Tryz.func94
attribute [simp] Tryz.func95
attribute [simp] Tryz.func97
attribute [simp] Tryz.func98
attribute [simp] Tryz.func99
attribute [simp] Tryz.func100
attribute [simp] Tryz.func101
attribute [simp] Tryz.func102
attribute [simp] Tryz.func103
attribute [simp] Tryz.func104
attribute [simp] Tryz.func105
attribute [simp] Tryz.func106
attribute [simp] Tryz.func107
attribute [simp] Tryz.func108
attribute [simp] Tryz.func109
attribute [simp] Tryz.func110
attribute [simp] Tryz.func111
attribute [simp] Tryz.func112
attribute [simp] Tryz.func113
attribute [simp] Tryz.func114
attribute [simp] Tryz.func115
attribute [simp] Tryz.func116
attribute [simp] Tryz.func117
attribute [simp] Tryz.func118
attribute [simp] Tryz.func119
attribute [simp] Tryz.func120
attribute [simp] Tryz.func121
attribute [simp] Tryz.func123
attribute [simp] Tryz.func124
attribute [simp] Tryz.func125
attribute [simp] Tryz.func126
attribute [simp] Tryz.func127
attribute [simp] Tryz.func128
attribute [simp] Tryz.func145
attribute [simp] Tryz.func146
attribute [simp] Tryz.func147
attribute [simp] Tryz.func148
attribute [simp] Tryz.func149
attribute [simp] Tryz.func152
attribute [simp] Tryz.func153
attribute [simp] Tryz.func154
attribute [simp] Tryz.func155
attribute [simp] Tryz.func164
attribute [simp] Tryz.func165
attribute [simp] Tryz.func166
attribute [simp] Tryz.func167
attribute [simp] Tryz.func168
attribute [simp] Tryz.func169
attribute [simp] Tryz.func170
attribute [simp] Tryz.func171
attribute [simp] Tryz.func175
attribute [simp] Tryz.func176
attribute [simp] Tryz.func177
attribute [simp] Tryz.func178
attribute [simp] Tryz.func179
attribute [simp] Tryz.func180
attribute [simp] Tryz.func181
attribute [simp] Tryz.func182
attribute [simp] Tryz.func183
attribute [simp] Tryz.func184
attribute [simp] Tryz.func185
attribute [simp] Tryz.func186
attribute [simp] Tryz.func187
attribute [simp] Tryz.func188
attribute [simp] Tryz.func189
attribute [simp] Tryz.func190
attribute [simp] Tryz.func191
attribute [simp] Tryz.func192
attribute [simp] Tryz.func193
attribute [simp] Tryz.func194
attribute [simp] Tryz.func195
attribute [simp] Tryz.func196
attribute [simp] Tryz.func197
attribute [simp] Tryz.func198
attribute [simp] Tryz.func199
attribute [simp] Tryz.func200
attribute [simp] Tryz.func201
attribute [simp] Tryz.func202
attribute [simp] Tryz.func203
attribute [simp] Tryz.func204
attribute [simp] Tryz.func205
attribute [simp] Tryz.func206
attribute [simp] Tryz.func207
attribute [simp] Tryz.func208
attribute [simp] Tryz.func209
attribute [simp] Tryz.func217
attribute [simp] Tryz.func218
attribute [simp] Tryz.func219
attribute [simp] Tryz.func220
attribute [simp] Tryz.func221
attribute [simp] Tryz.func229
attribute [simp] Tryz.func234
attribute [simp] Tryz.func235
attribute [simp] Tryz.func236
attribute [simp] Tryz.func237
attribute [simp] Tryz.func238
attribute [simp] Tryz.func239
attribute [simp] Tryz.func240
attribute [simp] Tryz.func241
attribute [simp] Tryz.func242
attribute [simp] Tryz.func243
attribute [simp] Tryz.func244
attribute [simp] Tryz.func245
attribute [simp] Tryz.func246
attribute [simp] Tryz.func247
attribute [simp] Tryz.func249
attribute [simp] Tryz.func250
attribute [simp] Tryz.func251
attribute [simp] Tryz.func252
attribute [simp] Tryz.func253
attribute [simp] Tryz.func254
attribute [simp] Tryz.func255
attribute [simp] Tryz.func256
attribute [simp] Tryz.func257
attribute [simp] Tryz.func258
attribute [simp] Tryz.func259
attribute [simp] Tryz.func260
attribute [simp] Tryz.func266
attribute [simp] Tryz.func268
attribute [simp] Tryz.func269
attribute [simp] Tryz.func270
attribute [simp] Tryz.func271
attribute [simp] Tryz.func272
attribute [simp] Tryz.func273
attribute [simp] Tryz.func274
attribute [simp] Tryz.func275
attribute [simp] Tryz.func276
attribute [simp] Tryz.func277
attribute [simp] Tryz.func278
attribute [simp] Tryz.func279
attribute [simp] Tryz.func280
attribute [simp] Tryz.func281
attribute [simp] Tryz.func282
attribute [simp] Tryz.func283
attribute [simp] Tryz.func284
attribute [simp] Tryz.func285
attribute [simp] Tryz.func286
attribute [simp] Tryz.func287
attribute [simp] Tryz.func288
attribute [simp] Tryz.func289
attribute [simp] Tryz.func290
attribute [simp] Tryz.func291
attribute [simp] Tryz.func292
attribute [simp] Tryz.func293
attribute [simp] Tryz.func294
attribute [simp] Tryz.func295
attribute [simp] Tryz.func296
attribute [simp] Tryz.func297
attribute [simp] Tryz.func298
attribute [simp] Tryz.func299
attribute [simp] Tryz.func300
attribute [simp] Tryz.func301
attribute [simp] Tryz.func308
attribute [simp] Tryz.func309
attribute [simp] Tryz.func310
attribute [simp] Tryz.func311
attribute [simp] Tryz.func312
attribute [simp] Tryz.func313
attribute [simp] Tryz.func314
attribute [simp] Tryz.func315
attribute [simp] Tryz.func316
attribute [simp] Tryz.func317
attribute [simp] Tryz.func318
attribute [simp] Tryz.func319
attribute [simp] Tryz.func320
attribute [simp] Tryz.func321
attribute [simp] Tryz.func322
attribute [simp] Tryz.func325
attribute [simp] Tryz.func326
attribute [simp] Tryz.func327
attribute [simp] Tryz.func328
attribute [simp] Tryz.func329
end Go.Sm
namespace Go.Sm
set_option maxRecDepth 100000
set_option maxHeartbeats 4000000
structure Ver where
 at_:Int
 val:ByteArray
 gone:Bool
 deriving DecidableEq
def Srt (c:List Ver):Prop:=c.Pairwise λa b=>a.at_<b.at_
def lk (c:List Ver) (t:Int):Option Ver:=c.find? λv=>v.at_==t
theorem qk4 {α:Type} {l:List α} {k:Nat} (h:k<l.length):l[k]∈l.drop k:=by rw [List.drop_eq_getElem_cons h];exact List.mem_cons_self
theorem lk_cons (v:Ver) (c:List Ver) (t:Int):lk (v::c) t=if v.at_=t then some v else lk c t:=by
 simp only [lk,List.find?_cons];by_cases h:v.at_=t
 ·simp [h]
 ·have:(v.at_==t)=false:=by simpa using h
  rw [this,if_neg h]
theorem Srt.tail {v:Ver} {c:List Ver} (h:Srt (v::c)):Srt c:=(List.pairwise_cons.1 h).2
theorem Srt.head {v:Ver} {c:List Ver} (h:Srt (v::c)):∀u∈c,v.at_<u.at_:=(List.pairwise_cons.1 h).1
theorem Srt.lk_mem {c:List Ver} (h:Srt c) {v:Ver} (hv:v∈c):lk c v.at_=some v:=by
 induction c with
 |nil=>cases hv
 |cons u c ih=>
  rw [lk_cons];rcases List.mem_cons.1 hv with rfl|hv
  ·simp
  ·have:=h.head v hv;rw [if_neg (by omega)]
   exact ih h.tail hv
def qfl (c:List Ver) (v:Ver):List Ver:=(c.filter λu=>decide (u.at_<v.at_))++v::c.filter λu=>decide (v.at_<u.at_)
theorem Srt.filter {c:List Ver} (h:Srt c) (p:Ver→Bool):Srt (c.filter p):=List.Pairwise.filter p h
theorem Srt.put {c:List Ver} (h:Srt c) (v:Ver):Srt (qfl c v):=by
 unfold qfl Srt;rw [List.pairwise_append];refine⟨h.filter _,List.pairwise_cons.2 ⟨λu hu=>by simp at hu;exact hu.2,h.filter _⟩,λa ha b hb=> ?_⟩
 simp at ha hb;rcases hb with rfl|hb
 ·exact ha.2
 ·omega
def qcs (l:List Ver):List Ver:=l.foldl qfl []
theorem qh3 (l:List Ver) (v:Ver):qcs (l++ [v])=qfl (qcs l) v:=by simp [qcs]
theorem qo5 {α:Type} {P:List α→Prop} (h0:P []) (h1:∀l a,P l→P (l++ [a])) (l:List α):P l:=by
 have:∀m:List α,P m.reverse:=by
  intro m
  induction m with
  |nil=>exact h0
  |cons a m ih=>rw [List.reverse_cons];exact h1 _ _ ih
 have:=this l.reverse
 rwa [List.reverse_reverse] at this
theorem qf3 (l:List Ver):Srt (qcs l):=qo5 (P:=λl=>Srt (qcs l)) List.Pairwise.nil (λl v ih=>by rw [qh3];exact ih.put v) l
theorem qeo {α:Type} {l:List α} {k:Nat} (p:α→Bool) (h1:∀x∈l.take k,p x=true) (h2:∀x∈l.drop k,p x=false):l.filter p=l.take k:=by
 conv=>lhs;rw [←List.take_append_drop k l]
 rw [List.filter_append,List.filter_eq_self.2 h1,List.filter_eq_nil_iff.2 λx hx=>by simp [h2 x hx],List.append_nil]
theorem qhj {α:Type} {l:List α} {k:Nat} (p:α→Bool) (h1:∀x∈l.take k,p x=false) (h2:∀x∈l.drop k,p x=true):l.filter p=l.drop k:=by
 conv=>lhs;rw [←List.take_append_drop k l]
 rw [List.filter_append,List.filter_eq_self.2 h2,List.filter_eq_nil_iff.2 λx hx=>by simp [h1 x hx],List.nil_append]
structure Found (c:List Ver) (t:Int) (k:Nat):Prop where
 le:k≤c.length
 lo:∀v∈c.take k,v.at_<t
 hi:∀v∈c.drop k,t≤v.at_
theorem Found.put_ins {c:List Ver} {v:Ver} {k:Nat} (hs:Srt c) (h:Found c v.at_ k) (hn:∀hk:k<c.length,c[k].at_≠v.at_):qfl c v=c.take k++v::c.drop k:=by
 unfold qfl;rw [qeo (k:=k) _ (λx hx=>by simpa using h.lo x hx) λx hx=>by simpa using h.hi x hx]
 rw [qhj (k:=k) _ (λx hx=>by have:=h.lo x hx;simp;omega) λx hx=> ?_]
 have h1:=h.hi x hx;have hk:k<c.length:=by
  by_cases hk:k<c.length
  ·exact hk
  ·rw [List.drop_of_length_le (by omega)] at hx;cases hx
 have h2:=hn hk;have hs2:Srt (c.drop k):=List.Pairwise.sublist (List.drop_sublist k c) hs;have h3:=h.hi c[k] (qk4 hk);rw [List.drop_eq_getElem_cons hk] at hx hs2;rcases List.mem_cons.1 hx with rfl|hx
 ·simp;omega
 ·have:=hs2.head x hx;simp;omega
theorem Found.put_set {c:List Ver} {v:Ver} {k:Nat} (hs:Srt c) (h:Found c v.at_ k) (hk:k<c.length) (he:c[k].at_=v.at_):qfl c v=c.set k v:=by
 unfold qfl;rw [qeo (k:=k) _ (λx hx=>by simpa using h.lo x hx) λx hx=>by simpa using h.hi x hx]
 rw [qhj (k:=k+1) _ (λx hx=> ?_) λx hx=> ?_]
 ·rw [List.set_eq_take_append_cons_drop,if_pos hk]
 ·rw [List.take_succ_eq_append_getElem hk] at hx;simp only [List.mem_append,List.mem_singleton] at hx;rcases hx with hx|rfl
  ·have:=h.lo x hx;simp;omega
  ·simp;omega
 ·have hs2:Srt (c.drop k):=List.Pairwise.sublist (List.drop_sublist k c) hs;rw [List.drop_eq_getElem_cons hk] at hs2;have:=hs2.head x hx;simp;omega
def atL (c:List Ver) (t:Int):Option Ver:=(c.filter λv=>decide (v.at_≤t)).getLast?
theorem Found.upto {c:List Ver} {t:Int} {k:Nat} (hs:Srt c) (h:Found c t k):(c.filter λv=>decide (v.at_≤t))=c.take (if(∃hk:k<c.length,c[k].at_=t) then k+1 else k):=by
 have hs2:Srt (c.drop k):=List.Pairwise.sublist (List.drop_sublist k c) hs;split
 ·rename_i hh;obtain⟨hk,he⟩:=hh;rw [List.drop_eq_getElem_cons hk] at hs2;refine qeo _ (λx hx=> ?_) λx hx=> ?_
  ·rw [List.take_succ_eq_append_getElem hk] at hx;simp only [List.mem_append,List.mem_singleton] at hx;rcases hx with hx|rfl
   ·have:=h.lo x hx;simp;omega
   ·simp;omega
  ·have:=hs2.head x hx;simp;omega
 ·rename_i hh;refine qeo _ (λx hx=>by have:=h.lo x hx;simp;omega) λx hx=> ?_
  have h1:=h.hi x hx;by_cases hk:k<c.length
  ·have h2:c[k].at_≠t:=λe=>hh ⟨hk,e⟩
   have h3:=h.hi c[k] (qk4 hk);rw [List.drop_eq_getElem_cons hk] at hx hs2;rcases List.mem_cons.1 hx with rfl|hx
   ·simp;omega
   ·have:=hs2.head x hx;simp;omega
  ·rw [List.drop_of_length_le (by omega)] at hx;cases hx
theorem qrm {α:Type} {l:List α} {k:Nat} (h:k<l.length):(l.take (k+1)).getLast? =some l[k]:=by
 rw [List.take_succ_eq_append_getElem h,List.getLast?_append]
 rfl
theorem Found.at_eq {c:List Ver} {t:Int} {k:Nat} (hs:Srt c) (h:Found c t k) (hk:k<c.length) (he:c[k].at_=t):atL c t=some c[k]:=by
 have:=h.upto hs;rw [if_pos ⟨hk,he⟩] at this;unfold atL;rw [this];exact qrm hk
theorem Found.at_lt {c:List Ver} {t:Int} {k:Nat} (hs:Srt c) (h:Found c t (k+1)) (hn:¬∃hk:k+1<c.length,c[k+1].at_=t):atL c t=some (c[k]'(by have:=h.le;omega)):=by
 have:=h.upto hs;rw [if_neg hn] at this;unfold atL;rw [this];exact qrm (by have:=h.le;omega)
theorem Found.at_zero {c:List Ver} {t:Int} (hs:Srt c) (h:Found c t 0) (hn:¬∃hk:0<c.length,c[0].at_=t):atL c t=none:=by
 have:=h.upto hs;rw [if_neg hn] at this;unfold atL;rw [this]
 rfl
def qer (c:List Ver) (t:Int):List Ver:=
 match(c.filter λv=>decide (v.at_≤t)).length with
 |0=>c
 |n+1=>if((c[n]?).map (·.gone)).getD false then c.drop (n+1) else c.drop n
theorem qyz {c:List Ver} {t:Int} {k:Nat} (hk:k<c.length) (h:(c.filter λv=>decide (v.at_≤t))=c.take (k+1)):qer c t=if c[k].gone then c.drop (k+1) else c.drop k:=by
 have:(c.filter λv=>decide (v.at_≤t)).length=k+1:=by rw [h];simp;omega
 unfold qer;rw [this];simp [hk]
theorem Found.cut_eq {c:List Ver} {t:Int} {k:Nat} (hs:Srt c) (h:Found c t k) (hk:k<c.length) (he:c[k].at_=t):qer c t=if c[k].gone then c.drop (k+1) else c.drop k:=by
 have:=h.upto hs;rw [if_pos ⟨hk,he⟩] at this;exact qyz hk this
theorem Found.cut_lt {c:List Ver} {t:Int} {k:Nat} (hs:Srt c) (h:Found c t (k+1)) (hn:¬∃hk:k+1<c.length,c[k+1].at_=t):qer c t=if(c[k]'(by have:=h.le;omega)).gone then c.drop (k+1) else c.drop k:=by
 have:=h.upto hs;rw [if_neg hn] at this;exact qyz (by have:=h.le;omega) this
theorem Found.cut_zero {c:List Ver} {t:Int} (hs:Srt c) (h:Found c t 0) (hn:¬∃hk:0<c.length,c[0].at_=t):qer c t=c:=by
 have:=h.upto hs;rw [if_neg hn] at this;unfold qer;rw [this]
 rfl
end Go.Sm
namespace Go.Sm
open Go Go.Proofs
set_option maxRecDepth 100000
set_option maxHeartbeats 4000000
def qad (v:Ver):List Value:= [.int .u64 v.at_, .string v.val, .bool v.gone]
def ordV (t:Int) (v:Ver):Int:=if v.at_<t then-1 else if t<v.at_ then 1 else 0
theorem qx9 (t:Int) (v:Ver) (σ:CSt) (Q:Out→CSt→Prop) (h:∀σ',Grow σ σ'→Q (.ret (.int .i64 (ordV t v)) false) σ'):W E1 (.fn 171 #[.agg (qad v).toArray, .int .u64 t] none) σ Q:=by
 rw [qap (fn:=Tryz.f171) Tryz.func171 rfl rfl rfl];have hg:=h _ ((Grow.refl σ).alloc (CObj.cells (qad v) 40 false));simp only [qad,ordV] at hg;simp [qa0,qad];by_cases h1:v.at_<t
 ·simpa [h1] using hg
 ·by_cases h2:t<v.at_
  ·simpa [h1,h2] using hg
  ·simpa [h1,h2] using hg
theorem mid_eq (lo hi:Int) (h1:0≤lo) (h2:lo<hi) (h3:hi<2^62):IntKind.i64.wrap ((IntKind.u64.wrap (IntKind.i64.wrap (lo+hi))).fdiv (2^min 1 IntKind.u64.bits))=(lo+hi)/2:=by
 rw [IntWalk.i64_in (lo+hi) (by omega),IntWalk.u64_in _ (by omega)]
 have:(2^min 1 IntKind.u64.bits:Int)=2:=by decide
 rw [this,Int.fdiv_eq_ediv_of_nonneg _ (by omega),IntWalk.i64_in _ (by omega)]
theorem qye (l:List Ver) (v key:Value) (hkey:qae key=true) (ord:Ver→Int) (σ:CSt) (hsl:Sl σ 40 3 qad v l) (hbig:l.length<2^40)
  (hcmp:∀(x:Ver) (σ:CSt) (Q:Out→CSt→Prop),(∀σ',Grow σ σ'→Q (.ret (.int .i64 (ord x)) false) σ')→W E1 (.fn 171 #[.agg (qad x).toArray,key] none) σ Q)
  (hmono:∀j k (hj:j<l.length) (hk:k<l.length),j<k→ord l[k]<0→ord l[j]<0) (Q:Out→CSt→Prop)
  (h:∀(k:Nat) (σ':CSt),Cut ord l k→Grow σ σ'→Q (.ret (.tuple #[.int .i64 k, .bool (decide (∃h:k<l.length,ord l[k]=0))]) false) σ'):
  W E1 (.fn 170 #[v,key, .func (.func 171) #[] #[]] none) σ Q:=by
 rw [qap (fn:=Tryz.f170) Tryz.func170 rfl rfl rfl];rcases hsl with⟨rfl,rfl⟩|⟨i,off,cap,row,ro,rfl,hg,hin,hrow,hlen,hcap⟩
 ·have:=h 0 σ ⟨Nat.le_refl _,by simp,by simp⟩ (Grow.refl σ)
  simp [qa0];rw [qeq];simp [qa0,qa2,qa4];have e:decide (∃h:0<([]:List Ver).length,ord ([]:List Ver)[0]=0)=false:=decide_eq_false λ⟨h,_⟩=>absurd h (by simp)
  rw [e] at this;exact this
 simp [qa0]
 refine qaj (λn a σ'=>∃tm lo hi,a=⟨tm,49, [],false⟩∧tm.get 0=some (.slice (some ⟨i,off,none⟩) l.length cap)∧tm.get 1=some key∧tm.get 2=some (.func (.func 171) #[] #[])∧tm.get 8=some (.int .i64 l.length)∧tm.get 9=some (.int .i64 lo)∧tm.get 10=some (.int .i64 hi)∧
   (0≤lo∧lo≤hi∧hi≤l.length∧n=(hi-lo).toNat∧(∀j (h:j<l.length),(j:Int)<lo→ord l[j]<0)∧(∀j (h:j<l.length),hi≤j→0≤ord l[j]))∧Grow σ σ') ?_ l.length _ _ ?_
 ·rintro n a σ' ⟨tm,lo,hi,rfl,h0,h1,h2,h8,h9,h10,⟨hlo,hlh,hhi,hn,hl,hr⟩,hgr⟩;have hgi:=hgr.get hg hin;by_cases hlt:lo<hi
  ·have hm:=mid_eq lo hi hlo hlt (by omega)
   obtain⟨m,hmm⟩:∃m:Nat,(lo+hi)/2=m:=⟨((lo+hi)/2).toNat,by omega⟩
   have hm1:m<l.length:=by omega
   have hm2:lo≤m∧(m:Int)<hi:=by omega
   rw [hmm] at hm;have hld:=qam (enc:=qad) (λ_=>rfl) hrow m hm1
   have hle:=qbe hlen m hm1;have hw:=qb7 m (by omega)
   simp [qa0,h0,h1,h2,h8,h9,h10,hlt,hm,hm1,hgi,hld,hle,-List.length_flatMap];refine hcmp _ _ _ fun σ'' hgr2=> ?_
   by_cases hc:ord l[m]<0
   ·simp [qa0,hc,hw];refine⟨_, ?_,h0,h1,h2,h8,hi,h10,⟨by omega,by omega,hhi,rfl,λj hjl hj=> ?_,hr⟩,hgr.trans hgr2⟩
    ·omega
    ·by_cases hj':j=m
     ·subst hj';exact hc
     ·exact hmono j m hjl hm1 (by omega) hc
   ·simp [qa0,hc];refine⟨_, ?_,h0,h1,h2,h8,lo,h9,⟨hlo,by omega,by omega,rfl,hl,λj hjl hj=> ?_⟩,hgr.trans hgr2⟩
    ·omega
    ·by_cases hj':j=m
     ·subst hj';omega
     ·have:=hmono m j hm1 hjl (by omega)
      omega
  ·obtain⟨k,rfl⟩:=Int.eq_ofNat_of_zero_le hlo;have hk:hi=k:=by omega
   have hcut:Cut ord l k:=⟨by omega,λj hj h=>hl j hj (by omega),λj hj h=>hr j hj (by omega)⟩
   by_cases hkl:k<l.length
   ·have hld:=qam (enc:=qad) (λ_=>rfl) hrow k hkl
    have hle:=qbe hlen k hkl;simp [qa0,qa2,qa4,h0,h1,h2,h8,h9,h10,hlt,hkl,hgi,hld,hle,-List.length_flatMap];refine hcmp _ _ _ fun σ'' hgr2=> ?_
    have:=h k σ'' hcut (hgr.trans hgr2);simp [qa0,qa2,qa4,hkl] at this⊢;exact this
   ·have:=h k σ' hcut hgr;simp [qa0,qa2,qa4,h0,h1,h2,h8,h9,h10,hlt,hkl] at this⊢;exact this
 ·refine⟨_,0,l.length,rfl, ?_⟩;simp;exact⟨⟨λj _ h=>by omega,λj h1 h2=>by omega⟩,Grow.refl σ⟩
theorem qkn (l:List Ver) (v:Value) (σ:CSt) (hsl:Sl σ 40 3 qad v l) (hbig:l.length<2^40) (Q:Out→CSt→Prop)
  (h:∀(v':Value) (σ':CSt),Own σ.n σ' 40 qad v' l→Grow σ σ'→Q (.ret v' false) σ'):W E1 (.fn 169 #[v] none) σ Q:=by
 rw [qap (fn:=Tryz.f169) Tryz.func169 rfl rfl rfl];have h0:(0:Nat)≠qa1:=by simp [qa1]
 rcases hsl with⟨rfl,rfl⟩|⟨i,off,cap,row,ro,rfl,hg,hin,hrow,hlen,hcap⟩
 ·have:=h _ σ Own.nil (Grow.refl σ);simpa [qa0] using this
 by_cases hl:l.length=0
 ·have hnil:l= []:=List.eq_nil_of_length_eq_zero hl;subst hnil;have:=h (.slice (some ⟨σ.n,0,none⟩) 0 0) (σ.alloc (.cells [] 40 false)) (.inr ⟨σ.n,0,rfl,Nat.le_refl _,by simp,by simp, .inr ⟨rfl,rfl⟩⟩) ((Grow.refl σ).alloc _)
  have hin':¬i=σ.n:=by omega
  have hoff:off≤row.length:=by simp at hlen;omega
  simpa [qa0,qat,qhk,qau,hg,h0,hin',hoff] using this
 ·have hn0:¬l= []:=by rintro rfl;simp at hl
  have hb:l.length*32≤140737488355328:=by omega
  have hrl:((l.flatMap qad).length:Nat)=l.length*3:=qa5 qad (λ_=>rfl) l
  have hck:qc9 (l.flatMap qad)=true:=qdz (λ_=>rfl) l
  have:=h (.slice (some ⟨σ.n+1,0,none⟩) l.length qa1) ((σ.alloc (.cells [] 40 false)).alloc (.cells (l.flatMap qad) 40 false))
   (.inr ⟨σ.n+1,qa1,rfl,by omega,by simp,by simp, .inl rfl⟩) (((Grow.refl σ).alloc _).alloc _)
  have hin':¬i=σ.n:=by omega
  simpa [qa0,qat,qhk,qau,hg,h0,hin',hlen,hrow,hrl,hl,hb,hck,hn0,-List.length_flatMap] using this
theorem qxl (b:Nat) (l:List Ver) (x:Ver) (a:Nat) (ha:a≤l.length) (v:Value) (σ:CSt) (hb:b≤σ.n) (hown:Own b σ 40 qad v l) (j:Nat) (hj:σ.get j=some (.cells (qad x) 40 false))
  (hji:∀i off n c,v= .slice (some ⟨i,off,none⟩) n c→i≠j) (hbig:l.length<2^40) (Q:Out→CSt→Prop)
  (h:∀(v':Value) (σ':CSt),Own b σ' 40 qad v' (l.take a++x::l.drop a)→qbx b σ σ'→Q (.ret v' false) σ'):
  W E1 (.fn 229 #[v, .int .i64 a, .slice (some ⟨j,0,none⟩) 1 1] none) σ Q:=by
 have hxl:(qad x).length=3:=rfl;rcases hown with⟨rfl,rfl⟩|⟨i,cap,rfl,hbi,hin,hg,hcap⟩
 ·have ha0:a=0:=by simpa using ha
  subst ha0;rw [Int.natCast_zero,qj1 (E:=E1) (f:=229) (g:=qvl 40 3 32) rfl rfl (v:= .slice (some ⟨σ.n,0,none⟩) 1 qa1) (σ':=σ.alloc (.cells (qad x) 40 false)) (qw0 hj rfl rfl (by omega))]
  exact h _ _ (.inr ⟨σ.n,qa1,rfl,hb,by simp,by simp, .inl rfl⟩) ((qbx.refl b σ).alloc hb _)
 ·have hij:=hji i 0 _ _ rfl;have hrl:(l.flatMap qad).length=l.length*3:=qa5 qad (λ_=>rfl) l
  have hck:qc9 (l.flatMap qad)=true:=qdz (λ_=>rfl) l
  rcases hcap with rfl|⟨rfl,rfl⟩
  ·have he:=qn0 (enc:=qad) (l:=l) (sz:=3) (λ_=>rfl) a ha x
   rw [qj1 (E:=E1) (f:=229) (g:=qvl 40 3 32) rfl rfl (v:= .slice (some ⟨σ.n,0,none⟩) (l.length+1) qa1) (σ':=(σ.put i .dead).alloc (.cells ((l.take a++x::l.drop a).flatMap qad) 40 false)) (by
    rw [qik (sz:=3) hg hj rfl rfl (by omega) (by omega) hij (by omega) (qpf hck _) (by omega) (by omega) hbig,if_pos rfl,←he]
    rfl)]
   refine h _ _ (.inr ⟨σ.n,qa1, ?_,hb,by simp,by simp, .inl rfl⟩) (((qbx.refl b σ).put hbi _).alloc hb _)
   have:(l.take a++x::l.drop a).length=l.length+1:=by simp;omega
   rw [this]
  ·have ha0:a=0:=by simpa using ha
   subst ha0
   rw [Int.natCast_zero,qj1 (E:=E1) (f:=229) (g:=qvl 40 3 32) rfl rfl (v:= .slice (some ⟨σ.n,0,none⟩) 1 qa1) (σ':=σ.alloc (.cells (qad x) 40 false)) (by
    have hg':σ.get i=some (.cells [] 40 false):=hg
    exact(qik (sz:=3) (n:=0) hg' hj rfl rfl (by omega) (by omega) hij (by simp) (by simp) (by omega) (by omega) (by omega)).trans ((if_neg (by simp [qa1])).trans (if_pos ⟨rfl,rfl⟩)))]
   exact h _ _ (.inr ⟨σ.n,qa1,rfl,hb,by simp,by simp, .inl rfl⟩) ((qbx.refl b σ).alloc hb _)
theorem qtw (t:Int) (v:Ver):ordV t v<0↔v.at_<t:=by
 unfold ordV;by_cases h1:v.at_<t
 ·simp [h1]
 ·by_cases h2:t<v.at_<;>simp [h1,h2]
theorem ordV_eq (t:Int) (v:Ver):ordV t v=0↔v.at_=t:=by
 unfold ordV;by_cases h1:v.at_<t
 ·simp [h1];omega
 ·by_cases h2:t<v.at_
  ·simp [h1,h2];omega
  ·simp [h1,h2];omega
theorem Cut.found {c:List Ver} {t:Int} {k:Nat} (h:Cut (ordV t) c k):Found c t k:=by
 refine⟨h.le,λv hv=> ?_,λv hv=> ?_⟩
 ·obtain⟨j,hj,rfl⟩:=List.mem_iff_getElem.1 hv;simp only [List.length_take] at hj;have:=h.lo j (by omega) (by omega)
  rw [qtw] at this;simpa using this
 ·obtain⟨j,hj,rfl⟩:=List.mem_iff_getElem.1 hv;simp only [List.length_drop] at hj;have:=h.hi (k+j) (by omega) (by omega)
  simp only [List.getElem_drop];have h2:=qtw t c[k+j];omega
theorem Srt.get_lt {c:List Ver} (h:Srt c) {j k:Nat} (hj:j<c.length) (hk:k<c.length) (hjk:j<k):c[j].at_<c[k].at_:=List.pairwise_iff_getElem.1 h j k hj hk hjk
theorem Srt.mono {c:List Ver} (h:Srt c) (t:Int):∀j k (hj:j<c.length) (hk:k<c.length),j<k→ordV t c[k]<0→ordV t c[j]<0:=by
 intro j k hj hk hjk ho;rw [qtw] at ho⊢;have:=h.get_lt hj hk hjk;omega
theorem qjg (c:List Ver) (hs:Srt c) (v:Value) (t:Int) (σ:CSt) (hsl:Sl σ 40 3 qad v c) (hbig:c.length<2^40) (Q:Out→CSt→Prop)
  (h:∀(k:Nat) (σ':CSt),Found c t k→Grow σ σ'→Q (.ret (.tuple #[.int .i64 k, .bool (decide (∃h:k<c.length,c[k].at_=t))]) false) σ'):
  W E1 (.fn 170 #[v, .int .u64 t, .func (.func 171) #[] #[]] none) σ Q:=by
 refine qye c v _ rfl (ordV t) σ hsl hbig (λx σ Q h=>qx9 t x σ Q h) (hs.mono t) Q λk σ' hc hg=> ?_
 have:=h k σ' hc.found hg;simpa only [ordV_eq] using this
theorem quh (c:List Ver) (hs:Srt c) (v:Value) (x:Ver) (σ:CSt) (hsl:Sl σ 40 3 qad v c) (hbig:c.length<2^39) (Q:Out→CSt→Prop)
  (h:∀(v':Value) (σ':CSt),Own σ.n σ' 40 qad v' (qfl c x)→Grow σ σ'→Q (.ret v' false) σ'):W E1 (.fn 167 #[v, .agg (qad x).toArray] none) σ Q:=by
 rw [qap (fn:=Tryz.f167) Tryz.func167 rfl rfl rfl];simp [qa0,qad];refine qjg c hs v x.at_ _ (hsl.grow ((Grow.refl σ).alloc _)) (by omega) _ λk σ1 hf hg1=> ?_
 have hg1':Grow σ σ1:=((Grow.refl σ).alloc _).trans hg1;have hb1:σ1.get σ.n=some (.cells (qad x) 40 false):=hg1.get (by simp [qad]) (by simp)
 simp [qa0];refine qkn c v σ1 (hsl.grow hg1') (by omega) _ λv2 σ2 hown hg2=> ?_
 have hb2:σ2.get σ.n=some (.cells (qad x) 40 false):=hg2.get hb1 (by have:=hg1.n;simp at this;omega)
 have hn1:σ.n+1≤σ1.n:=by have:=hg1.n;simpa using this
 have hg2':=hg1'.trans hg2;by_cases hfo:∃hk:k<c.length,c[k].at_=x.at_
 ·obtain⟨hk,he⟩:=hfo;rw [decide_eq_true ⟨hk,he⟩];rcases hown with⟨rfl,rfl⟩|⟨i,cap,rfl,hbi,hin,hgi,hcap⟩
  ·simp at hk
  ·have hki:(k:Int)<c.length:=by omega
   have hlen:k*3+3≤(c.flatMap qad).length:=by rw [qa5 qad (n:=3) (λ_=>rfl)];omega
   have hset:=qoz qad (n:=3) (λ_=>rfl) c k x hk
   simp only [qad] at hset hb2;simp [qa0,hgi,hk,hb2,hlen,-List.length_flatMap,-List.append_assoc,-List.cons_append];rw [hset];rw [hf.put_set hs hk he] at h;have hl:(c.set k x).length=c.length:=by simp
   refine h _ _ (.inr ⟨i,cap,by rw [hl],by omega,by simpa using hin,by simp, ?_⟩) (hg2'.put (by omega) _)
   rcases hcap with rfl|⟨rfl,rfl⟩
   ·exact .inl rfl
   ·simp at hk
 ·rw [decide_eq_false hfo];simp only [qad] at hb2;simp [qa0,hb2];rw [hf.put_ins hs (λhk he=>hfo ⟨hk,he⟩)] at h
  have hji:∀i off n c,v2= .slice (some ⟨i,off,none⟩) n c→i≠σ2.n:=by
   rintro i off n c rfl;rcases hown with⟨h0,_⟩|⟨i',cap,h0,_,h1,_⟩
   ·cases h0
   ·cases h0;omega
  refine qxl σ1.n c x k hf.le v2 _ (by simp;have:=hg2.n;omega) (hown.grow ((Grow.refl σ2).alloc _)) σ2.n (by simp [qad]) hji (by omega) _ λv3 σ3 ho3 hg3=> ?_
  simp [qa0];refine h _ _ (ho3.weaken (by omega)) (Grow.thenB (hg2'.alloc _) hg3 (by omega))
def qr2 (o:Option Ver):Value:=match o with
 |some v=> .tuple #[.agg (qad v).toArray, .bool true]
 |none=> .tuple #[.agg #[.int .u64 0, .string ⟨#[]⟩, .bool false], .bool false]
theorem qyf (c:List Ver) (hs:Srt c) (v:Value) (t:Int) (σ:CSt) (hsl:Sl σ 40 3 qad v c) (hbig:c.length<2^39) (Q:Out→CSt→Prop)
  (h:∀(σ':CSt),Grow σ σ'→Q (.ret (qr2 (atL c t)) false) σ'):W E1 (.fn 94 #[v, .int .u64 t] none) σ Q:=by
 rw [qap (fn:=Tryz.f94) Tryz.func94 rfl rfl rfl];simp [qa0];refine qjg c hs v t _ (hsl.grow ((Grow.refl σ).alloc _)) (by omega) _ λk σ1 hf hg1=> ?_
 have hg1':Grow σ σ1:=((Grow.refl σ).alloc _).trans hg1;have hb1:=hg1.get (i:=σ.n) (o:= .cells [.int .u64 0, .string ⟨#[]⟩, .bool false] 40 false) (by simp) (by simp)
 have hsl1:=hsl.grow hg1';have fin:=h _ (hg1'.put (Nat.le_refl σ.n) (.cells ((atL c t).elim [.int .u64 0, .string ⟨#[]⟩, .bool false] qad) 40 false));by_cases hfo:∃hk:k<c.length,c[k].at_=t
 ·rw [decide_eq_true hfo];obtain⟨hk,he⟩:=hfo;rw [hf.at_eq hs hk he] at fin;rcases hsl1 with⟨rfl,rfl⟩|⟨i,off,cap,row,ro,rfl,hg,hin,hrow,hlen,hcap⟩
  ·simp at hk
  ·have hld:=qam (enc:=qad) (λ_=>rfl) hrow k hk
   have hle:=qbe hlen k hk;have hk0:¬(k:Int)<0:=by omega
   simp only [qr2,qad,Option.elim] at fin hld;simpa [qa0,hg,hk,hk0,hld,hle,hb1] using fin
 ·rw [decide_eq_false hfo];cases k with
  |zero=>
   rw [hf.at_zero hs hfo] at fin;simp only [qr2,Option.elim] at fin;have hw:IntKind.i64.wrap (-1)= -1:=by decide
   simpa [qa0,hb1,hw] using fin
  |succ k=>
   rw [hf.at_lt hs hfo] at fin;have hk:k<c.length:=by have:=hf.le;omega
   rcases hsl1 with⟨rfl,rfl⟩|⟨i,off,cap,row,ro,rfl,hg,hin,hrow,hlen,hcap⟩
   ·simp at hk
   ·have hld:=qam (enc:=qad) (λ_=>rfl) hrow k hk
    have hle:=qbe hlen k hk;have hk0:¬(k:Int)<0:=by omega
    have hw:=i64n k (by omega)
    simp only [qr2,qad,Option.elim] at fin hld;simpa [qa0,hg,hk,hk0,hld,hle,hb1,hw] using fin
theorem qxy (c:List Ver) (hs:Srt c) (v:Value) (t:Int) (σ:CSt) (hsl:Sl σ 40 3 qad v c) (hbig:c.length<2^39) (Q:Out→CSt→Prop)
  (h:∀(v':Value) (σ':CSt),Own σ.n σ' 40 qad v' (qer c t)→Grow σ σ'→Q (.ret v' false) σ'):W E1 (.fn 202 #[v, .int .u64 t] none) σ Q:=by
 rw [qap (fn:=Tryz.f202) Tryz.func202 rfl rfl rfl];simp [qa0];refine qjg c hs v t _ hsl (by omega) _ λk σ1 hf hg1=> ?_
 have hsl1:=hsl.grow hg1
 --behind the place
 have part:∀(m:Nat) (v':Value),Sl σ1 40 3 qad v' (c.drop m)→qer c t=c.drop m→W E1 (.fn 169 #[v'] none) σ1 (λo σ'=>∃v'',o= .ret v'' false∧Q (.ret v'' false) σ'):=by
  intro m v' hsl' hc;refine qkn (c.drop m) v' σ1 hsl' (by simp;omega) _ λv2 σ2 hown hg2=>⟨v2,rfl, ?_⟩
  rw [hc] at h;exact h _ _ (hown.weaken hg1.n) (hg1.trans hg2)
 have go:∀(m:Nat) (v':Value) (K:Out→CSt→Prop),Sl σ1 40 3 qad v' (c.drop m)→qer c t=c.drop m→(∀v'' σ',Q (.ret v'' false) σ'→K (.ret v'' false) σ')→W E1 (.fn 169 #[v'] none) σ1 K:=
  λm v' K h1 h2 h3=>(part m v' h1 h2).weaken λo s ⟨v'',e,hq⟩=>e▸h3 _ _ hq
 by_cases hfo:∃hk:k<c.length,c[k].at_=t
 ·rw [decide_eq_true hfo];obtain⟨hk,he⟩:=hfo;have hcut:=hf.cut_eq hs hk he;rcases hsl1 with⟨rfl,rfl⟩|⟨i,off,cap,row,ro,rfl,hg,hin,hrow,hlen,hcap⟩
  ·simp at hk
  ·have hcell:=qb2 (enc:=qad) (λ_=>rfl) hrow k 2 hk (by omega)
   have hk0:¬(k:Int)<0:=by omega
   have hw:=qb7 k (by omega)
   have hw0:=i64n k (by omega)
   have hp:(0:Int)≤(k:Int)+1∧((k:Int)+1).toNat=k+1:=by omega
   have hsub:∀m,m≤c.length→∀cap',(cap'=qa1∨(c.length-m≤cap'∧cap'<qa1))→∀off',(c.length-m=0∨off'=off+m*3)→off'≤off+m*3→Sl σ1 40 3 qad (.slice (some ⟨i,off',none⟩) (c.length-m) cap') (c.drop m):=by
    intro m hm cap' hc' off' ho ho2;have hml:m*3≤c.length*3:=by omega
    refine .inr ⟨i,off',cap',row,ro,by simp,hg,hin, ?_,by simp;omega,by simpa using hc'⟩
    rcases ho with ho|rfl
    ·rw [List.drop_of_length_le (by omega)];simp
    ·exact qop (enc:=qad) (λ_=>rfl) hrow m hm
   simp only [qad] at hcell;simp at hcell;cases hgo:c[k].gone with
   |true=>
    rw [if_pos hgo] at hcut;rw [hgo] at hcell;rcases hcap with rfl|⟨hc1,hc2⟩
    ·simp [qa0,hg,hk,hk0,hcell,hw,hw0,hp,qb5,qdn,Nat.succ_le_of_lt hk];exact go (k+1) _ _ (hsub (k+1) (by omega) _ (.inl rfl) _ (.inr rfl) (Nat.le_refl _)) hcut λv'' σ' hq=>by simpa [qa0] using hq
    ·have hne:cap≠qa1:=by omega
     have hq1:k+1≤c.length∧c.length≤cap∧cap<qa1:=by omega
     simp [qa0,hg,hk,hk0,hcell,hw,hw0,hp,qch,qcu,hne,hq1];refine go (k+1) _ _ (hsub (k+1) (by omega) _ (.inr ⟨by omega,by omega⟩) _ ?_ ?_) hcut λv'' σ' hq=>by simpa [qa0] using hq
     ·split
      ·left;omega
      ·right;rfl
     ·split<;>omega
   |false=>
    rw [if_neg (by simp [hgo])] at hcut
    rw [hgo] at hcell;rcases hcap with rfl|⟨hc1,hc2⟩
    ·simp [qa0,hg,hk,hk0,hcell,hw0,qb5,qdn,Nat.le_of_lt hk];exact go k _ _ (hsub k (by omega) _ (.inl rfl) _ (.inr rfl) (Nat.le_refl _)) hcut λv'' σ' hq=>by simpa [qa0] using hq
    ·have hne:cap≠qa1:=by omega
     have hq1:k≤c.length∧c.length≤cap∧cap<qa1:=by omega
     simp [qa0,hg,hk,hk0,hcell,hw0,qch,qcu,hne,hq1];refine go k _ _ (hsub k (by omega) _ (.inr ⟨by omega,by omega⟩) _ ?_ ?_) hcut λv'' σ' hq=>by simpa [qa0] using hq
     ·split
      ·left;omega
      ·right;rfl
     ·split<;>omega
 ·rw [decide_eq_false hfo];cases k with
  |zero=>
   have hcut:=hf.cut_zero hs hfo;have hw:IntKind.i64.wrap (-1)= -1:=by decide
   simp [qa0,hw];exact go 0 v _ (by simpa using hsl1) (by simpa using hcut) λv'' σ' hq=>by simpa [qa0] using hq
  |succ k=>
   have hk:k<c.length:=by have:=hf.le;omega
   have hcut:=hf.cut_lt hs hfo;rcases hsl1 with⟨rfl,rfl⟩|⟨i,off,cap,row,ro,rfl,hg,hin,hrow,hlen,hcap⟩
   ·simp at hk
   ·have hcell:=qb2 (enc:=qad) (λ_=>rfl) hrow k 2 hk (by omega)
    have hk0:¬(k:Int)<0:=by omega
    have hw:=qb7 k (by omega)
    have hw0:=i64n k (by omega)
    have hp:(0:Int)≤(k:Int)+1∧((k:Int)+1).toNat=k+1:=by omega
    have hsub:∀m,m≤c.length→∀cap',(cap'=qa1∨(c.length-m≤cap'∧cap'<qa1))→∀off',(c.length-m=0∨off'=off+m*3)→off'≤off+m*3→Sl σ1 40 3 qad (.slice (some ⟨i,off',none⟩) (c.length-m) cap') (c.drop m):=by
     intro m hm cap' hc' off' ho ho2;have hml:m*3≤c.length*3:=by omega
     refine .inr ⟨i,off',cap',row,ro,by simp,hg,hin, ?_,by simp;omega,by simpa using hc'⟩
     rcases ho with ho|rfl
     ·rw [List.drop_of_length_le (by omega)];simp
     ·exact qop (enc:=qad) (λ_=>rfl) hrow m hm
    simp only [qad] at hcell;simp at hcell;cases hgo:c[k].gone with
    |true=>
     rw [if_pos hgo] at hcut;rw [hgo] at hcell;rcases hcap with rfl|⟨hc1,hc2⟩
     ·simp [qa0,hg,hk,hk0,hcell,hw,hw0,hp,qb5,qdn,Nat.succ_le_of_lt hk];exact go (k+1) _ _ (hsub (k+1) (by omega) _ (.inl rfl) _ (.inr rfl) (Nat.le_refl _)) hcut λv'' σ' hq=>by simpa [qa0] using hq
     ·have hne:cap≠qa1:=by omega
      have hq1:k+1≤c.length∧c.length≤cap∧cap<qa1:=by omega
      simp [qa0,hg,hk,hk0,hcell,hw,hw0,hp,qch,qcu,hne,hq1];refine go (k+1) _ _ (hsub (k+1) (by omega) _ (.inr ⟨by omega,by omega⟩) _ ?_ ?_) hcut λv'' σ' hq=>by simpa [qa0] using hq
      ·split
       ·left;omega
       ·right;rfl
      ·split<;>omega
    |false=>
     rw [if_neg (by simp [hgo])] at hcut
     rw [hgo] at hcell;rcases hcap with rfl|⟨hc1,hc2⟩
     ·simp [qa0,hg,hk,hk0,hcell,hw0,qb5,qdn,Nat.le_of_lt hk];exact go k _ _ (hsub k (by omega) _ (.inl rfl) _ (.inr rfl) (Nat.le_refl _)) hcut λv'' σ' hq=>by simpa [qa0] using hq
     ·have hne:cap≠qa1:=by omega
      have hq1:k≤c.length∧c.length≤cap∧cap<qa1:=by omega
      simp [qa0,hg,hk,hk0,hcell,hw0,qch,qcu,hne,hq1];refine go k _ _ (hsub k (by omega) _ (.inr ⟨by omega,by omega⟩) _ ?_ ?_) hcut λv'' σ' hq=>by simpa [qa0] using hq
      ·split
       ·left;omega
       ·right;rfl
      ·split<;>omega
end Go.Sm
namespace Go.Sm
set_option maxRecDepth 100000
set_option maxHeartbeats 4000000
theorem Srt.upto {t:Int}:∀{c:List Ver},Srt c→∃m,m≤c.length∧(∀i (h:i<c.length),c[i].at_≤t↔i<m)∧(c.filter λv=>decide (v.at_≤t))=c.take m
 | [],_=>⟨0,Nat.le_refl _,λi h=>absurd h (by simp),rfl⟩
 |v::c,h=>by
  obtain⟨m,h1,h2,h3⟩:=Srt.upto (t:=t) h.tail;by_cases hv:v.at_≤t
  ·refine⟨m+1,by simpa using h1,λi hi=> ?_, ?_⟩
   ·cases i with
    |zero=>simpa using hv
    |succ i=>simpa using h2 i (by simpa using hi)
   ·simp [hv,h3]
  ·have hall:∀u∈c,¬u.at_≤t:=λu hu=>by have:=h.head u hu;omega
   refine⟨0,Nat.zero_le _,λi hi=> ?_, ?_⟩
   ·cases i with
    |zero=>simpa using hv
    |succ i=>
     have hi':i<c.length:=by simpa using hi
     have:=hall c[i] (List.getElem_mem hi');simp only [List.getElem_cons_succ,Nat.not_lt_zero,iff_false];exact this
   ·rw [List.filter_cons,if_neg (by simpa using hv),List.take_zero,List.filter_eq_nil_iff]
    intro u hu;simpa using hall u hu
theorem qqy {c:List Ver} (hs:Srt c) (t:Int):∃s,qer c t=c.drop s∧∀i (h:i<c.length),(t<c[i].at_∨(¬(∃h:i+1<c.length,c[i+1].at_≤t)∧c[i].gone=false))↔s≤i:=by
 obtain⟨m,h1,h2,h3⟩:=hs.upto (t:=t);have hl:(c.filter λv=>decide (v.at_≤t)).length=m:=by rw [h3,List.length_take];omega
 cases m with
 |zero=>
  refine⟨0,by unfold qer;rw [hl];rfl,λi hi=> ?_⟩
  have:=h2 i hi;simp only [Nat.zero_le,iff_true]
  left
  omega
 |succ n=>
  have hn:n<c.length:=by omega
  have hcut:qer c t=if c[n].gone then c.drop (n+1) else c.drop n:=qyz hn h3
  cases hg:c[n].gone with
  |true=>
   refine⟨n+1,by rw [hcut,hg];rfl,λi hi=> ?_⟩
   have a1:=h2 i hi
   constructor
   ·rintro(h|⟨h,h'⟩)
    ·omega
    ·by_cases e:i<n
     ·exact absurd ⟨by omega,(h2 (i+1) (by omega)).2 (by omega)⟩ h
     ·by_cases e2:i=n
      ·subst e2;rw [hg] at h';cases h'
      ·omega
   ·intro h;left;omega
  |false=>
   refine⟨n,by rw [hcut,hg];rfl,λi hi=> ?_⟩
   have a1:=h2 i hi
   constructor
   ·rintro(h|⟨h,h'⟩)
    ·omega
    ·by_cases e:i<n
     ·exact absurd ⟨by omega,(h2 (i+1) (by omega)).2 (by omega)⟩ h
     ·omega
   ·intro h;by_cases e:i=n
    ·subst e
     right
     refine⟨?_,hg⟩;rintro⟨h4,h5⟩;have:=(h2 (i+1) h4).1 h5;omega
    ·left;omega
theorem qsw {c:List Ver} {x u:Ver}:u∈qfl c x↔u=x∨(u∈c∧u.at_≠x.at_):=by
 unfold qfl;simp only [List.mem_append,List.mem_filter,List.mem_cons,decide_eq_true_eq]
 constructor
 ·rintro(⟨h,h2⟩|rfl|⟨h,h2⟩)
  ·exact .inr ⟨h,by omega⟩
  ·exact .inl rfl
  ·exact .inr ⟨h,by omega⟩
 ·rintro(rfl|⟨h,h2⟩)
  ·exact .inr (.inl rfl)
  ·by_cases e:u.at_<x.at_
   ·exact .inl ⟨h,e⟩
   ·exact .inr (.inr ⟨h,by omega⟩)
theorem Srt.inj {c:List Ver} (h:Srt c) {u v:Ver} (hu:u∈c) (hv:v∈c) (e:u.at_=v.at_):u=v:=by
 have a:=h.lk_mem hu;have b:=h.lk_mem hv;rw [e,b] at a;exact(Option.some.inj a).symm
theorem qur {c:List Ver} {t:Int}:atL c t=none↔∀u∈c,¬u.at_≤t:=by
 unfold atL;rw [List.getLast?_eq_none_iff,List.filter_eq_nil_iff];simp
theorem qsc {c:List Ver} (hs:Srt c) {t:Int} {a:Ver} (h:atL c t=some a):a∈c∧a.at_≤t∧∀u∈c,u.at_≤t→u.at_≤a.at_:=by
 unfold atL at h;have hm:=List.mem_of_getLast? h;rw [List.mem_filter,decide_eq_true_eq] at hm;refine⟨hm.1,hm.2,λu hu hut=> ?_⟩
 have hF:Srt (c.filter λv=>decide (v.at_≤t)):=hs.filter _
 have hu':u∈(c.filter λv=>decide (v.at_≤t)):=List.mem_filter.2 ⟨hu,by simpa using hut⟩
 obtain⟨ys,hys⟩:=List.getLast?_eq_some_iff.1 h;rw [hys] at hF hu';rcases List.mem_append.1 hu' with h1|h1
 ·have:=(List.pairwise_append.1 hF).2.2 u h1 a (by simp)
  omega
 ·rw [List.mem_singleton] at h1;rw [h1];exact Int.le_refl _
theorem qul {c:List Ver} (hs:Srt c) {t:Int} {a:Ver} (h1:a∈c) (h2:a.at_≤t) (h3:∀u∈c,u.at_≤t→u.at_≤a.at_):atL c t=some a:=by
 cases h:atL c t with
 |none=>exact absurd h2 (qur.1 h a h1)
 |some b=>
  obtain⟨g1,g2,g3⟩:=qsc hs h;have a1:=g3 a h1 h2;have a2:=h3 b g1 g2;rw [hs.inj g1 h1 (by omega)]
theorem qah (k:ByteArray):klt k k=false:=qi2 _
theorem qcy {a b c:ByteArray} (h:klt a b=true) (h':klt b c=true):klt a c=true:=qp0 h h'
theorem qz9 {a b:ByteArray} (h:klt a b=false) (h':klt b a=false):a=b:=qep (qyy h h')
abbrev Stl:=List (ByteArray×List Ver)
def KS (S:Stl):Prop:=S.Pairwise λa c=>klt a.1 c.1=true
structure Pos (S:Stl) (k:ByteArray) (n:Nat):Prop where
 le:n≤S.length
 lo:∀j (h:j<S.length),j<n→klt S[j].1 k=true
 hi:∀j (h:j<S.length),n≤j→klt S[j].1 k=false
def qtk (S:Stl) (k:ByteArray) (x:Ver) (n:Nat):Stl:=
 match S[n]? with
 |some s=>if s.1=k then S.set n (k,qfl s.2 x) else S.take n++(k,qfl [] x)::S.drop n
 |none=>S.take n++(k,qfl [] x)::S.drop n
end Go.Sm
namespace Go.Sm
open Go Go.WideShapes Go.ChangeShapes
set_option maxRecDepth 100000
set_option maxHeartbeats 4000000
def Calm (σ:CSt):Prop:=∀i,¬rw_ σ i
section
variable {P:Program} {ρ:Rho} {σ:CSt} {w:World}
theorem R.addRo (h:R P ρ σ w) (hc:Calm σ) {p:Place} {c:List Value} {e:TypeId} (hlt:p.b<w.heap.size) (hz:p.z=P.cellsOf e) (hl:c.length≤p.e) (hcell:∀(k:Nat) (u:k<c.length),w.cell? ⟨p.b,p.o+k,none⟩=some c[k]∧qae c[k]=true):
  R P (ρ.set σ.n p) (σ.alloc (.cells c e true)) w∧ρ.le (ρ.set σ.n p)∧Calm (σ.alloc (.cells c e true))∧(ρ.set σ.n p) σ.n=some p:=by
 have hg:=h.gn;have hle:ρ.le (ρ.set σ.n p):=λj r hr=>by
  unfold Rho.set;rw [if_neg];exact hr;intro e;rw [e,h.dom _ (Nat.le_refl _)] at hr;cases hr
 have hset:∀j,j≠σ.n→(ρ.set σ.n p) j=ρ j:=λj hj=>by unfold Rho.set;rw [if_neg hj]
 have hself:(ρ.set σ.n p) σ.n=some p:=by unfold Rho.set;rw [if_pos rfl]
 have hget:∀j,j≠σ.n→(σ.alloc (.cells c e true)).get j=σ.get j:=λj hj=>by rw [CSt.get_alloc,if_neg hj]
 have hlive:∀j,j≠σ.n→live (σ.alloc (.cells c e true)) j→live σ j:=λj hj ⟨o,ho,hd⟩=>⟨o,by rw [←hget j hj];exact ho,hd⟩
 have hcalm:Calm (σ.alloc (.cells c e true)):=λj hj=>by
  rw [qiv] at hj;by_cases e:j=σ.n
  ·rw [if_pos e] at hj;cases hj.1
  ·rw [if_neg e] at hj;exact hc j hj
 refine⟨⟨λj hj=> ?_,λj hj=> ?_,λj r hr hj=> ?_,λj o r ho hr=> ?_,λa b r s hne hr hs hra hlb=>absurd hra (hcalm a),λg hgl=> ?_,Nat.le_succ_of_le hg⟩,hle,hcalm,hself⟩
 ·rw [CSt.n_alloc] at hj;rw [hset j (by omega)];exact h.dom j (by omega)
 ·by_cases e:j=σ.n
  ·rw [e];exact⟨p,hself⟩
  ·rw [hset j e];exact h.tot j (hlive j e hj)
 ·by_cases e:j=σ.n
  ·subst e;rw [hself] at hr;cases hr;exact hlt
  ·rw [hset j e] at hr;exact h.lt j r hr (hlive j e hj)
 ·by_cases e':j=σ.n
  ·subst e';rw [CSt.get_alloc,if_pos rfl] at ho;cases ho;rw [hself] at hr;cases hr;refine⟨⟨hz,hl⟩,λk u=> ?_⟩
   obtain⟨h1,h2⟩:=hcell k u;exact⟨_,h1, .plain _ h2⟩
  ·rw [hget j e'] at ho;rw [hset j e'] at hr;exact(h.obj j o r ho hr).mono hle
 ·obtain⟨q,h1,h2⟩:=h.glob g hgl;exact⟨q,hle _ _ h1,h2⟩
theorem open_arg {H:Type} {en:TypeId×Value→H} {base base':Nat} {spare:Nat→Bool} {held:Bool} {t e:TypeId} {f fuel:Nat} {ks:List PK} {v':Value} {x:DataW H×List MemPlace}
  (hR:R P ρ σ w) (hc:Calm σ) (ht:P.underlying t=some (.slice e)) (hk:qek P f e=some ks) (hce:P.cellsOf e=ks.length) (hval:Value.okWide P w .any base t v') (hd:DataW.trod en P w base' spare held fuel t v'.cells.toList=some x):
  ∃ρ' σ' v rows,R P ρ' σ' w∧Calm σ'∧ρ.le ρ'∧VR ρ' v v'∧Grow σ σ'∧(∀r∈rows,OkL ks r)∧
   ((v= .slice none 0 0∧rows= [])∨∃i cap,v= .slice (some ⟨i,0,none⟩) rows.length cap∧i<σ'.n∧σ'.get i=some (.cells rows.flatten e true)∧rows.length≤cap∧cap<qa1):=by
 obtain⟨a0,len,cap,rfl⟩:=okWide_slice ht hval;have hcells:(Value.slice a0 len cap).cells.toList= [.slice a0 len cap]:=rfl;rw [hcells] at hd;rcases zaj ht hk hce hd with h0|⟨a,len',cap',rows,h1,h2,h3,h4,h5,h6⟩
 ·have h0':a0=none∧len=0∧cap=0:=by simpa using h0
  obtain⟨rfl,rfl,rfl⟩:=h0';exact⟨ρ,σ, .slice none 0 0, [],hR,hc,Rho.le_refl ρ, .plain _ rfl,Grow.refl σ,by simp, .inl ⟨rfl,rfl⟩⟩
 ·have h1':a0=some a∧len=len'∧cap=cap':=by simpa using h1
  obtain⟨rfl,rfl,rfl⟩:=h1';have hok:w.has P .any base a e cap:=by
   simp only [Value.okWide,ht,Cell.okWide,Cell.ok] at hval;exact hval.2.2
  obtain⟨_,hspot,row,cells,hsh,_⟩:=hok;have hb:a.block<w.heap.size:=by
   unfold World.shape? at hsh;split at hsh
   ·rename_i h;exact(Array.getElem?_eq_some_iff.1 h).1
   ·cases hsh
  obtain⟨ab,ao,asl⟩:=a;simp only at hspot;subst hspot;have hfl:rows.flatten.length=len*ks.length:=by
   have:∀(l:List (List Value)),(∀r∈l,OkL ks r)→l.flatten.length=l.length*ks.length:=by
    intro l
    induction l with
    |nil=>simp
    |cons r l ih=>
     intro h;rw [List.flatten_cons,List.length_append,ih (λr hr=>h r (by simp [hr])),(h r (by simp)).length,List.length_cons,Nat.add_mul]
     omega
   rw [this rows h5,h4]
  have hflat:∀v∈rows.flatten,qae v=true:=λv hv=>by
   obtain⟨r,hr,hv⟩:=List.mem_flatten.1 hv;exact(h5 r hr).flat v hv
  have hm:cap<qa1:=by unfold maxLen at h3;simp [qa1];omega
  obtain⟨r1,r2,r3,r4⟩:=hR.addRo hc (p:=⟨ab,ao,len*ks.length,ks.length⟩) (c:=rows.flatten) (e:=e) hb hce.symm (by simp [hfl]) (λk u=>by
   rw [hfl] at u;have hk0:0<ks.length:=by
    rcases Nat.eq_zero_or_pos ks.length with h|h
    ·rw [h] at u;omega
    ·exact h
   have hi:k/ks.length<len:=by rw [Nat.div_lt_iff_lt_mul hk0];exact u
   obtain⟨v,g1,g2⟩:=h6 (k/ks.length) (k %ks.length) hi (Nat.mod_lt _ hk0);have hkk:k/ks.length*ks.length+k %ks.length=k:=by rw [Nat.mul_comm];exact Nat.div_add_mod k ks.length
   rw [hkk] at g1;rw [Addr.add_plain,Addr.add_plain,Nat.add_assoc,hkk] at g2;obtain⟨u',e'⟩:=List.getElem?_eq_some_iff.1 g1;rw [e']
   exact⟨g2,hflat v (by rw [←e'];exact List.getElem_mem u')⟩)
  refine⟨_,_, .slice (some ⟨σ.n,0,none⟩) len cap,rows,r1,r3,r2, ?_,(Grow.refl σ).alloc _,h5, .inr ⟨σ.n,cap,by rw [h4],by simp,by simp,by omega,hm⟩⟩
  exact .slc _ _ _ _ ⟨ab,ao,len*ks.length,ks.length⟩ r4 (by omega)
theorem qup {α:Type} {enc:α→List Value} {ok:α→Prop} {ks:List PK} (h:∀r,OkL ks r→∃x,ok x∧r=enc x):∀rows:List (List Value),(∀r∈rows,OkL ks r)→∃l:List α,(∀x∈l,ok x)∧rows=l.map enc
 | [],_=>⟨[],by simp,rfl⟩
 |r::rows,hr=>by
  obtain⟨x,h1,rfl⟩:=h r (hr r (by simp))
  obtain⟨l,h2,rfl⟩:=qup h rows λr hr'=>hr r (by simp [hr'])
  exact⟨x::l,λy hy=>by
   rcases List.mem_cons.1 hy with rfl|hy
   ·exact h1
   ·exact h2 y hy,rfl⟩
theorem open_sl {H:Type} {en:TypeId×Value→H} {base base':Nat} {spare:Nat→Bool} {held:Bool} {t e:TypeId} {f fuel sz:Nat} {ks:List PK} {v':Value} {x:DataW H×List MemPlace} {α:Type} {enc:α→List Value} {ok:α→Prop}
  (hR:R P ρ σ w) (hc:Calm σ) (ht:P.underlying t=some (.slice e)) (hk:qek P f e=some ks) (hce:P.cellsOf e=ks.length) (hsz:∀x,(enc x).length=sz) (hen:∀r,OkL ks r→∃x,ok x∧r=enc x)
  (hval:Value.okWide P w .any base t v') (hd:DataW.trod en P w base' spare held fuel t v'.cells.toList=some x):
  ∃ρ' σ' v,∃l:List α,R P ρ' σ' w∧Calm σ'∧ρ.le ρ'∧VR ρ' v v'∧Grow σ σ'∧(∀x∈l,ok x)∧Sl σ' e sz enc v l:=by
 obtain⟨ρ',σ',v,rows,h1,h2,h3,h4,h5,h6,h7⟩:=open_arg hR hc ht hk hce hval hd;obtain⟨l,h8,rfl⟩:=qup hen rows h6;refine⟨ρ',σ',v,l,h1,h2,h3,h4,h5,h8, ?_⟩;rcases h7 with⟨rfl,h9⟩|⟨i,cap,rfl,h9,h10,h11,h12⟩
 ·exact .inl ⟨rfl,by simpa using h9⟩
 ·rw [List.length_map] at h11⊢;exact Sl.all hsz (by rw [List.flatMap_def];exact h10) h9 (.inr ⟨h11,h12⟩)
end
end Go.Sm
namespace Go.Sm
open Go Go.WideShapes Go.ChangeShapes Go.RowKit
set_option maxRecDepth 100000
set_option maxHeartbeats 4000000
def qny:Out→CSt→Prop:=λo _=>o= .ret (.bool true) false
theorem Frm.below {ρ ρ':Rho} {σ σ':CSt} {w w':World} (h:Frm ρ σ w ρ' σ' w') (hc:Calm σ):Below w.heap.size w w':=
 ⟨h.os,h.tape,h.output,h.size,λk hk=>h.keep k hk λi p _ hr=>absurd hr (hc i)⟩
section
variable {H:Type} {enc:TypeId×Value→H} {P:Program}
theorem qi7 (hl:laidOutB P=true) {W W':World} (hb:Below W.heap.size W W'):∀(ts:List TypeId) (vs:List Value) (ds:List (DataW H)) (p:List MemPlace),(∀t∈ts,P.readableRec t=true∧t<P.types.size)→
  DataW.TrodAll enc P W 0 (λ_=>true) true ts vs ds p→(∀x∈p,x.block<W.heap.size)→DataW.TrodAll enc P W' 0 (λb=>decide (b<W.heap.size)) true ts vs ds p
 | [],vs,ds,p,_,h,_=>by
  cases vs<;>cases ds<;>simp_all [DataW.TrodAll]
 |t::ts, [],ds,p,_,h,_=>by simp [DataW.TrodAll] at h
 |t::ts,v::vs, [],p,_,h,_=>by simp [DataW.TrodAll] at h
 |t::ts,v::vs,d::ds,p,ht,h,hp=>by
  obtain⟨p1,p2,h1,h2,rfl⟩:=h;exact⟨p1,p2,Below.trod hl (ht t (by simp)).1 (ht t (by simp)).2 h1 hb λx hx=>hp x (by simp [hx]),qi7 hl hb ts vs ds p2 (λt h=>ht t (by simp [h])) h2 λx hx=>hp x (by simp [hx]),rfl⟩
theorem zbl {E:Env} (G:Good E.P) (HE:qmj E) (HG:qnu E) {f:FuncId} {fn:Func} {s:ChangeSpec} (hl:laidOutB E.P=true) (hts:fn.params.toList.all (λt=>E.P.readableRec t&&decide (t<E.P.types.size))=true) {bt:TypeId}
  (hrt:fn.resultTypes= #[bt]) (hbt:E.P.underlying bt=some .bool) (hvars:s.vars= []) {W:World} {args:Array Value} {ds gs:List (DataW H)} {before:List MemPlace} (hW:DataW.Whole enc E.P fn.params.toList s.vars false W args.toList ds gs before)
  (hfn:s.fn H (ds++gs)={results:= [.lit (.bool true)],args:=ds}) {ρ:Rho} {σ:CSt} {aa:Array Value} (hR:R E.P ρ σ W) (hc:Calm σ) (hA:AsR ρ aa args) (hw:Sm.W E (.fn f aa none) σ qny):
  Calls E.P f args W λe W'=>∃v,e= .returned v∧s.post enc E.P fn false true false false W args v W':=by
 have hW':=hW;obtain⟨p,q,hA0,hV,rfl,_,_⟩:=hW;rw [hvars] at hV;obtain⟨rfl,rfl⟩:=trodVars_none hV;refine(Sm.W.calls G HE HG (Q:=λv _=>v= .bool true) (hw.weaken λo s h=>⟨_,h,rfl⟩) hR hA).mono λe W' ⟨v,v',σ',ρ',he,hv,_,hvr,hf⟩=> ?_
 subst hv;have:=hvr.bool;subst this;subst he;have hb:=hf.below hc;have hlt:∀x∈p,x.block<W.heap.size:=λx hx=>by simpa using hW'.lt x (by simp [hx])
 refine⟨_,rfl,ds, [],p++ [], [],p, [],hW', ?_, ?_, ?_,hb.frame _,λh=>by cases h⟩
 ·rw [hfn,hrt];exact⟨[], [],⟨1,by simp [DataW.trod,hbt,Value.cells]⟩,rfl,rfl⟩
 ·rw [hfn];refine qi7 hl hb _ _ _ _ (λt ht=> ?_) hA0 hlt
  have:=List.all_eq_true.1 hts t ht;simpa using this
 ·rw [hfn,hvars]
  rfl
end
end Go.Sm
namespace Go.Sm
open Go
variable {P:Program} {σ:CSt} {t:TypeId} {x y:Operand}
theorem zbd (h:P.underlying t=some .bool) (a b:Bool):qaq P (Op.equal t (.bool a) (.bool b))=some (a==b):=by
 obtain⟨c,h1,h2⟩:=qoq (P:=P) 1 t [.bool] (by simp [qek,h]) (by simp [qti,h]) 10000 (by omega) [.bool a] [.bool b] ⟨⟨a,rfl⟩,trivial⟩ ⟨⟨b,rfl⟩,trivial⟩
 have hw:∀v:Value,qhv P t [v]=v:=λv=>by simp [qhv,qd6,h]
 rw [hw,hw] at h1;have e:c=(a==b):=by
  cases a<;>cases b<;>cases c<;>simp at h2<;>rfl
 unfold Op.equal Op.maxDepth;rw [h1,e]
theorem qw4 (h:P.underlying t=some .bool) (a b:Bool):qd5 P σ .eql t x y (.bool a) (.bool b)= .val (.bool (a==b)) σ:=by
 have:binOp .eql t (.bool a) (.bool b)=(do pure (.bool (←Op.equal t (.bool a) (.bool b))):Sem Value):=rfl
 simp only [qd5,flat,Bool.and_self,if_true];rw [this,qac,qac,zbd h]
 rfl
theorem qwl (h:P.underlying t=some .bool) (a b:Bool):qd5 P σ .neq t x y (.bool a) (.bool b)= .val (.bool (a !=b)) σ:=by
 have:binOp .neq t (.bool a) (.bool b)=(do pure (.bool (!(←Op.equal t (.bool a) (.bool b)))):Sem Value):=rfl
 simp only [qd5,flat,Bool.and_self,if_true];rw [this,qac,qac,zbd h]
 rfl
end Go.Sm
namespace Go.Sm
open Go
set_option maxRecDepth 100000
set_option maxHeartbeats 4000000

end Go.Sm
namespace Go.Sm
open Go Go.Proofs
set_option maxRecDepth 100000
set_option maxHeartbeats 4000000
structure RV where
 key:ByteArray
 p:Option Addr
 n:Nat
 c:Nat
def qb4 (r:RV):List Value:= [.string r.key, .slice r.p r.n r.c]
theorem qga (r:RV):(qb4 r).length=2:=rfl
theorem cokR (r:RV):qc9 (qb4 r)=true:=rfl
open Classical in
noncomputable def ordR (k:ByteArray) (r:RV):Int:=if klt r.key k=true then-1 else if r.key=k then 0 else 1
theorem qsl (k:ByteArray) (r:RV) (σ:CSt) (Q:Out→CSt→Prop) (h:∀σ',Grow σ σ'→Q (.ret (.int .i64 (ordR k r)) false) σ'):W E1 (.fn 165 #[.agg (qb4 r).toArray, .string k] none) σ Q:=by
 rw [qap (fn:=Tryz.f165) Tryz.func165 rfl rfl rfl];have hg:=h _ ((Grow.refl σ).alloc (CObj.cells (qb4 r) 267 false));simp only [qb4,ordR] at hg;simp [qa0,qb4];cases h1:klt r.key k
 ·by_cases h2:r.key=k
  ·have h3:r.key.toList=k.toList:=by rw [h2]
   have h4:klt k k=false:=qi2 _;simpa [h1,h2,h3,h4] using hg
  ·have h3:¬r.key.toList=k.toList:=λe=>h2 (qep e)
   simpa [h1,h2,h3] using hg
 ·simpa [h1] using hg
theorem za5 (l:List RV) (v key:Value) (hkey:qae key=true) (ord:RV→Int) (σ:CSt) (hsl:Sl σ 267 2 qb4 v l) (hbig:l.length<2^40)
  (hcmp:∀(x:RV) (σ:CSt) (Q:Out→CSt→Prop),(∀σ',Grow σ σ'→Q (.ret (.int .i64 (ord x)) false) σ')→W E1 (.fn 165 #[.agg (qb4 x).toArray,key] none) σ Q)
  (hmono:∀j k (hj:j<l.length) (hk:k<l.length),j<k→ord l[k]<0→ord l[j]<0) (Q:Out→CSt→Prop)
  (h:∀(k:Nat) (σ':CSt),Cut ord l k→Grow σ σ'→Q (.ret (.tuple #[.int .i64 k, .bool (decide (∃h:k<l.length,ord l[k]=0))]) false) σ'):
  W E1 (.fn 164 #[v,key, .func (.func 165) #[] #[]] none) σ Q:=by
 rw [qap (fn:=Tryz.f164) Tryz.func164 rfl rfl rfl];rcases hsl with⟨rfl,rfl⟩|⟨i,off,cap,row,ro,rfl,hg,hin,hrow,hlen,hcap⟩
 ·have:=h 0 σ ⟨Nat.le_refl _,by simp,by simp⟩ (Grow.refl σ)
  simp [qa0];rw [qeq];simp [qa0,qa2,qa4];have e:decide (∃h:0<([]:List RV).length,ord ([]:List RV)[0]=0)=false:=decide_eq_false λ⟨h,_⟩=>absurd h (by simp)
  rw [e] at this;exact this
 simp [qa0]
 refine qaj (λn a σ'=>∃tm lo hi,a=⟨tm,49, [],false⟩∧tm.get 0=some (.slice (some ⟨i,off,none⟩) l.length cap)∧tm.get 1=some key∧tm.get 2=some (.func (.func 165) #[] #[])∧tm.get 8=some (.int .i64 l.length)∧tm.get 9=some (.int .i64 lo)∧tm.get 10=some (.int .i64 hi)∧
   (0≤lo∧lo≤hi∧hi≤l.length∧n=(hi-lo).toNat∧(∀j (h:j<l.length),(j:Int)<lo→ord l[j]<0)∧(∀j (h:j<l.length),hi≤j→0≤ord l[j]))∧Grow σ σ') ?_ l.length _ _ ?_
 ·rintro n a σ' ⟨tm,lo,hi,rfl,h0,h1,h2,h8,h9,h10,⟨hlo,hlh,hhi,hn,hl,hr⟩,hgr⟩;have hgi:=hgr.get hg hin;by_cases hlt:lo<hi
  ·have hm:=mid_eq lo hi hlo hlt (by omega)
   obtain⟨m,hmm⟩:∃m:Nat,(lo+hi)/2=m:=⟨((lo+hi)/2).toNat,by omega⟩
   have hm1:m<l.length:=by omega
   have hm2:lo≤m∧(m:Int)<hi:=by omega
   rw [hmm] at hm;have hld:=qam (enc:=qb4) (λ_=>rfl) hrow m hm1
   have hle:=qbe hlen m hm1;have hw:=qb7 m (by omega)
   simp [qa0,h0,h1,h2,h8,h9,h10,hlt,hm,hm1,hgi,hld,hle,-List.length_flatMap];refine hcmp _ _ _ fun σ'' hgr2=> ?_
   by_cases hc:ord l[m]<0
   ·simp [qa0,hc,hw];refine⟨_, ?_,h0,h1,h2,h8,hi,h10,⟨by omega,by omega,hhi,rfl,λj hjl hj=> ?_,hr⟩,hgr.trans hgr2⟩
    ·omega
    ·by_cases hj':j=m
     ·subst hj';exact hc
     ·exact hmono j m hjl hm1 (by omega) hc
   ·simp [qa0,hc];refine⟨_, ?_,h0,h1,h2,h8,lo,h9,⟨hlo,by omega,by omega,rfl,hl,λj hjl hj=> ?_⟩,hgr.trans hgr2⟩
    ·omega
    ·by_cases hj':j=m
     ·subst hj';omega
     ·have:=hmono m j hm1 hjl (by omega)
      omega
  ·obtain⟨k,rfl⟩:=Int.eq_ofNat_of_zero_le hlo;have hk:hi=k:=by omega
   have hcut:Cut ord l k:=⟨by omega,λj hj h=>hl j hj (by omega),λj hj h=>hr j hj (by omega)⟩
   by_cases hkl:k<l.length
   ·have hld:=qam (enc:=qb4) (λ_=>rfl) hrow k hkl
    have hle:=qbe hlen k hkl;simp [qa0,qa2,qa4,h0,h1,h2,h8,h9,h10,hlt,hkl,hgi,hld,hle,-List.length_flatMap];refine hcmp _ _ _ fun σ'' hgr2=> ?_
    have:=h k σ'' hcut (hgr.trans hgr2);simp [qa0,qa2,qa4,hkl] at this⊢;exact this
   ·have:=h k σ' hcut hgr;simp [qa0,qa2,qa4,h0,h1,h2,h8,h9,h10,hlt,hkl] at this⊢;exact this
 ·refine⟨_,0,l.length,rfl, ?_⟩;simp;exact⟨⟨λj _ h=>by omega,λj h1 h2=>by omega⟩,Grow.refl σ⟩
end Go.Sm
namespace Go.Sm
set_option maxRecDepth 100000
set_option maxHeartbeats 4000000

structure Sn where
 lo:Int
 hi:Int
 deriving DecidableEq
def inS (t:Int) (s:Sn):Prop:=s.lo≤t∧t≤s.hi
instance (t:Int) (s:Sn):Decidable (inS t s):=by unfold inS;exact inferInstance
def mem (l:List Sn) (t:Int):Prop:=∃s∈l,inS t s
@[simp] theorem mem_nil (t:Int):¬mem [] t:=λ⟨s,h,_⟩=>by simp at h
theorem mem_cons {s:Sn} {l:List Sn} {t:Int}:mem (s::l) t↔inS t s∨mem l t:=by
 unfold mem;simp
theorem mem_append {l m:List Sn} {t:Int}:mem (l++m) t↔mem l t∨mem m t:=by
 unfold mem
 constructor
 ·rintro⟨s,h,k⟩;rcases List.mem_append.1 h with h|h
  ·exact .inl ⟨s,h,k⟩
  ·exact .inr ⟨s,h,k⟩
 ·rintro(⟨s,h,k⟩|⟨s,h,k⟩)
  ·exact⟨s,List.mem_append.2 (.inl h),k⟩
  ·exact⟨s,List.mem_append.2 (.inr h),k⟩
theorem mem_perm {l m:List Sn} (h:l.Perm m) {t:Int}:mem l t↔mem m t:=
 ⟨λ⟨s,a,b⟩=>⟨s,h.subset a,b⟩,λ⟨s,a,b⟩=>⟨s,h.symm.subset a,b⟩⟩
def full (s:Sn):Bool:=decide (s.lo≤s.hi)
theorem qge {l:List Sn} {t:Int}:mem (l.filter full) t↔mem l t:=by
 constructor
 ·rintro⟨s,h,k⟩;exact⟨s,(List.mem_filter.1 h).1,k⟩
 ·rintro⟨s,h,k⟩;exact⟨s,List.mem_filter.2 ⟨h,by unfold full;have:=k.1;have:=k.2;simp;omega⟩,k⟩
structure Canon (l:List Sn):Prop where
 full:∀s∈l,s.lo≤s.hi
 apart:l.Pairwise λa b=>a.hi+1<b.lo
theorem Canon.nil:Canon []:=⟨by simp,List.Pairwise.nil⟩
theorem Canon.above {s:Sn} {l:List Sn} (h:Canon (s::l)) {t:Int} (ht:mem l t):s.hi+1<t:=by
 obtain⟨a,ha,h1,h2⟩:=ht;have:=(List.pairwise_cons.1 h.apart).1 a ha;omega
def qke (out:List Sn) (s:Sn):List Sn:=
 match out.getLast? with
 |some z=>if s.lo≤z.hi∨s.lo-1=z.hi then out.dropLast++ [⟨z.lo,max z.hi s.hi⟩] else out++ [s]
 |none=> [s]
def qck (l:List Sn):List Sn:=l.foldl qke []
theorem qnj (l:List Sn) (s:Sn):qck (l++ [s])=qke (qck l) s:=by simp [qck]
theorem zbr (out:List Sn) (s:Sn):(qke out s).length≤out.length+1:=by
 unfold qke;split
 ·rename_i z hz;split
  ·have:out≠ []:=by rintro rfl;simp at hz
   have:=List.length_pos_iff.2 this;simp
  ·simp
 ·simp
theorem qqw (l:List Sn):(qck l).length≤l.length:=by
 have:∀(l:List Sn) (o:List Sn),(l.foldl qke o).length≤o.length+l.length:=by
  intro l
  induction l with
  |nil=>intro o;simp
  |cons a l ih=>
   intro o;have h1:=ih (qke o a);have h2:=zbr o a;simp;omega
 simpa [qck] using this l []
structure JInv (out l:List Sn):Prop where
 can:Canon out
 mem:∀t,mem out t↔mem l t
 low:∀s∈out,∃u∈l,s.lo=u.lo
 hig:∀s∈out,∃u∈l,s.hi=u.hi
theorem JInv.push {out l:List Sn} {s:Sn} (h:JInv out l) (hs:s.lo≤s.hi) (hle:∀u∈l,u.lo≤s.lo):JInv (qke out s) (l++ [s]):=by
 unfold qke;cases hz:out.getLast? with
 |none=>
  have:out= []:=by simpa using hz
  subst this;refine⟨⟨by simpa using hs,by simp⟩,λt=> ?_,λa ha=>⟨s,by simp,by simp at ha;rw [ha]⟩,λa ha=>⟨s,by simp,by simp at ha;rw [ha]⟩⟩
  rw [mem_append,←h.mem t];simp
 |some z=>
  obtain⟨out',rfl⟩:∃o',out=o'++ [z]:=by
   obtain⟨ys,h1⟩:=List.getLast?_eq_some_iff.1 hz;exact⟨ys,h1⟩
  have hzm:z∈out'++ [z]:=by simp
  have hz1:=h.can.full z hzm;obtain⟨w,hw,ew⟩:=h.low z hzm;have hzs:z.lo≤s.lo:=by rw [ew];exact hle w hw
  have hap:=List.pairwise_append.1 h.can.apart;have hpz:∀a∈out',a.hi+1<z.lo:=λa ha=>hap.2.2 a ha z (by simp)
  simp only;split
  ·rename_i hc;have hc':s.lo≤z.hi+1:=by omega
   rw [List.dropLast_concat];refine⟨⟨λa ha=> ?_, ?_⟩,λt=> ?_,λa ha=> ?_,λa ha=> ?_⟩
   ·rcases List.mem_append.1 ha with ha|ha
    ·exact h.can.full a (by simp [ha])
    ·simp at ha;subst ha;show z.lo≤max z.hi s.hi;omega
   ·refine List.pairwise_append.2 ⟨hap.1,by simp,λa ha b hb=> ?_⟩
    simp at hb;subst hb;exact hpz a ha
   ·rw [mem_append,mem_append,←h.mem t,mem_append,mem_cons,mem_cons,mem_cons];have:inS t ⟨z.lo,max z.hi s.hi⟩↔inS t z∨inS t s:=by
     unfold inS;show z.lo≤t∧t≤max z.hi s.hi↔_
     omega
    rw [this];simp [or_assoc]
   ·rcases List.mem_append.1 ha with ha|ha
    ·obtain⟨u,hu,e⟩:=h.low a (by simp [ha])
     exact⟨u,by simp [hu],e⟩
    ·simp at ha;subst ha;exact⟨w,by simp [hw],ew⟩
   ·rcases List.mem_append.1 ha with ha|ha
    ·obtain⟨u,hu,e⟩:=h.hig a (by simp [ha])
     exact⟨u,by simp [hu],e⟩
    ·simp at ha;subst ha;by_cases hm:z.hi≤s.hi
     ·exact⟨s,by simp,by show max z.hi s.hi=s.hi;omega⟩
     ·obtain⟨u,hu,e⟩:=h.hig z hzm;exact⟨u,by simp [hu],by show max z.hi s.hi=u.hi;omega⟩
  ·rename_i hc;have hc':z.hi+1<s.lo:=by omega
   refine⟨⟨λa ha=> ?_, ?_⟩,λt=> ?_,λa ha=> ?_,λa ha=> ?_⟩
   ·rcases List.mem_append.1 ha with ha|ha
    ·exact h.can.full a ha
    ·simp at ha;subst ha;exact hs
   ·refine List.pairwise_append.2 ⟨h.can.apart,by simp,λa ha b hb=> ?_⟩
    simp at hb;subst hb;rcases List.mem_append.1 ha with ha|ha
    ·have:=hpz a ha;omega
    ·simp at ha;subst ha;exact hc'
   ·rw [mem_append (l:=out'++ [z]) (m:= [s]),h.mem t,mem_append]
   ·rcases List.mem_append.1 ha with ha|ha
    ·obtain⟨u,hu,e⟩:=h.low a ha;exact⟨u,by simp [hu],e⟩
    ·simp at ha;subst ha;exact⟨a,by simp,rfl⟩
   ·rcases List.mem_append.1 ha with ha|ha
    ·obtain⟨u,hu,e⟩:=h.hig a ha;exact⟨u,by simp [hu],e⟩
    ·simp at ha;subst ha;exact⟨a,by simp,rfl⟩
theorem qr4 {l:List Sn} (hs:∀s∈l,s.lo≤s.hi) (hp:l.Pairwise λa b=>a.lo≤b.lo):JInv (qck l) l:=by
 have:∀k,k≤l.length→JInv (qck (l.take k)) (l.take k):=by
  intro k
  induction k with
  |zero=>intro _;rw [List.take_zero];exact⟨Canon.nil,λt=>Iff.rfl,by simp [qck],by simp [qck]⟩
  |succ k ih=>
   intro hk;have hkl:k<l.length:=hk;rw [List.take_succ_eq_append_getElem hkl,qnj];refine(ih (by omega)).push (hs _ (List.getElem_mem hkl)) λu hu=> ?_
   obtain⟨i,hi,rfl⟩:=List.mem_iff_getElem.1 hu;rw [List.length_take] at hi;rw [List.getElem_take];exact List.pairwise_iff_getElem.1 hp i k (by omega) hkl (by omega)
 have h:=this l.length (Nat.le_refl _)
 rwa [List.take_of_length_le (Nat.le_refl _)] at h
def IsOf (l r:List Sn):Prop:=Canon r∧∀t,mem r t↔mem l t
def qgu:Sn:=⟨1,0⟩
def qd4 (s:Sn):Sn:=if s.lo≤s.hi then s else qgu
def qbi (s:Sn) (u:Int):Sn:=if s.hi≤u then qgu else qd4 ⟨max s.lo (u+1),s.hi⟩
def qc7 (s:Sn) (u:Int):Sn:=if u≤s.lo then qgu else qd4 ⟨s.lo,min s.hi (u-1)⟩
def qis (s o:Sn):Sn:=if o.lo≤o.hi then qc7 s o.lo else qd4 s
def qdm (s o:Sn):Sn:=if o.lo≤o.hi then qbi s o.hi else qgu
@[simp] theorem qo7 (t:Int):¬inS t qgu:=λh=>by have h1:=h.1;have h2:=h.2;simp only [qgu] at h1 h2;omega
theorem qo8 {s:Sn} {t:Int}:inS t (qd4 s)↔inS t s:=by
 unfold qd4;split
 ·rfl
 ·rename_i h
  constructor
  ·exact λk=>absurd k (qo7 t)
  ·rintro⟨h1,h2⟩;omega
theorem in_above {s:Sn} {u t:Int}:inS t (qbi s u)↔inS t s∧u<t:=by
 unfold qbi;split
 ·rename_i h
  constructor
  ·exact λk=>absurd k (qo7 t)
  ·rintro⟨⟨h1,h2⟩,h3⟩;omega
 ·rw [qo8];unfold inS;simp only;omega
theorem in_below {s:Sn} {u t:Int}:inS t (qc7 s u)↔inS t s∧t<u:=by
 unfold qc7;split
 ·rename_i h
  constructor
  ·exact λk=>absurd k (qo7 t)
  ·rintro⟨⟨h1,h2⟩,h3⟩;omega
 ·rw [qo8];unfold inS;simp only;omega
theorem qtn {s o:Sn} {t:Int}:(inS t (qis s o)∨inS t (qdm s o))↔inS t s∧¬inS t o:=by
 unfold qis qdm;split
 ·rename_i h;rw [in_below,in_above];unfold inS;omega
 ·rename_i h;rw [qo8];have:=qo7 t;have h2:¬inS t o:=λ⟨h1,h2⟩=>by omega
  simp [this,h2]
def Sn.ok (s:Sn):Prop:=(0≤s.lo∧s.lo<18446744073709551616)∧0≤s.hi∧s.hi<18446744073709551616
theorem qot:qgu.ok:=by unfold Sn.ok qgu;simp
theorem qnn {s:Sn} (h:s.ok):(qd4 s).ok:=by unfold qd4;split;exact h;exact qot
theorem ok_above {s:Sn} (h:s.ok) {u:Int} (hu:0≤u):(qbi s u).ok:=by
 unfold qbi;obtain⟨⟨h1,h2⟩,h3,h4⟩:=h;split
 ·exact qot
 ·exact qnn ⟨⟨by simp only;omega,by simp only;omega⟩,by simp only;omega,by simp only;omega⟩
theorem ok_below {s:Sn} (h:s.ok) {u:Int} (hu:u<18446744073709551616):(qc7 s u).ok:=by
 unfold qc7;obtain⟨⟨h1,h2⟩,h3,h4⟩:=h;split
 ·exact qot
 ·exact qnn ⟨⟨by simp only;omega,by simp only;omega⟩,by simp only;omega,by simp only;omega⟩
theorem ok_low {s o:Sn} (h:s.ok) (k:o.ok):(qis s o).ok:=by
 unfold qis;split
 ·exact ok_below h k.1.2
 ·exact qnn h
theorem ok_high {s o:Sn} (h:s.ok) (k:o.ok):(qdm s o).ok:=by
 unfold qdm;split
 ·exact ok_above h k.2.1
 ·exact qot
def qg9 (l:List Sn) (o:Sn):List Sn:=l.flatMap λs=> [qis s o,qdm s o]
theorem qzb {l:List Sn} {o:Sn} {t:Int}:mem (qg9 l o) t↔mem l t∧¬inS t o:=by
 unfold mem qg9
 constructor
 ·rintro⟨s,h,k⟩;obtain⟨a,ha,h2⟩:=List.mem_flatMap.1 h;have:inS t a∧¬inS t o:=by
   simp only [List.mem_cons,List.not_mem_nil,or_false] at h2;rcases h2 with rfl|rfl
   ·exact qtn.1 (.inl k)
   ·exact qtn.1 (.inr k)
  exact⟨⟨a,ha,this.1⟩,this.2⟩
 ·rintro⟨⟨a,ha,h1⟩,h2⟩;rcases qtn.2 ⟨h1,h2⟩ with h|h
  ·exact⟨_,List.mem_flatMap.2 ⟨a,ha,by simp⟩,h⟩
  ·exact⟨_,List.mem_flatMap.2 ⟨a,ha,List.mem_cons_of_mem _ (by simp)⟩,h⟩
def qev (l m:List Sn):List Sn:=m.foldl (λout o=>(qg9 out o).filter full) l
theorem qnd (l m:List Sn) (o:Sn):qev l (m++ [o])=(qg9 (qev l m) o).filter full:=by simp [qev]
theorem qq0 {l:List Sn} {t:Int}:∀{m:List Sn},mem (qev l m) t↔mem l t∧¬mem m t:=by
 intro m;unfold qev
 induction m generalizing l with
 |nil=>simp
 |cons o m ih=>
  rw [List.foldl_cons,ih,qge,qzb,mem_cons,and_assoc,not_or]
theorem qpm (l:List Sn) (o:Sn):(qg9 l o).length=l.length*2:=by
 induction l with
 |nil=>rfl
 |cons a l ih=>unfold qg9 at*;rw [List.flatMap_cons,List.length_append,ih];simp;omega
theorem cutS1_ok {l:List Sn} {o:Sn} (h:∀s∈l,s.ok) (k:o.ok):∀s∈qg9 l o,s.ok:=by
 intro s hs;obtain⟨a,ha,h2⟩:=List.mem_flatMap.1 hs;simp only [List.mem_cons,List.not_mem_nil,or_false] at h2;rcases h2 with rfl|rfl
 ·exact ok_low (h a ha) k
 ·exact ok_high (h a ha) k
theorem JInv.ok {out l:List Sn} (h:JInv out l) (k:∀s∈l,s.ok):∀s∈out,s.ok:=λs hs=>by
 obtain⟨u,hu,e⟩:=h.low s hs;obtain⟨w,hw,e2⟩:=h.hig s hs;exact⟨by rw [e];exact(k u hu).1,by rw [e2];exact(k w hw).2⟩
structure Lk where
 owner:Int
 frm:ByteArray
 til:ByteArray
 sp:Sn
 deriving DecidableEq
structure Tx where
 snap:Bool
 sp:Sn
 wr:List (ByteArray×Ver)
 deriving DecidableEq
structure PM where
 S:Stl
 L:List Lk
 clock:Int
 last:Int
 live:List (Int×Tx)
 taken:List Int
def qj9 {α:Type} (l:List (ByteArray×α)) (k:ByteArray) (x:α):List (ByteArray×α):=(l.filter λp=>klt p.1 k)++(k,x)::l.filter λp=>klt k p.1
def qaw {α:Type} (l:List (ByteArray×α)) (k:ByteArray):Option α:=(l.find? λp=>decide (p.1=k)).map (·.2)
def Kup {α:Type} (l:List (ByteArray×α)):Prop:=l.Pairwise λa c=>klt a.1 c.1=true
theorem Kup.put {α:Type} {l:List (ByteArray×α)} (h:Kup l) (k:ByteArray) (x:α):Kup (qj9 l k x):=by
 unfold qj9 Kup;rw [List.pairwise_append];refine⟨List.Pairwise.filter _ h,List.pairwise_cons.2 ⟨λu hu=> ?_,List.Pairwise.filter _ h⟩,λa ha b hb=> ?_⟩
 ·simpa using(List.mem_filter.1 hu).2
 ·have h1:klt a.1 k=true:=by simpa using(List.mem_filter.1 ha).2
  rcases List.mem_cons.1 hb with rfl|hb
  ·exact h1
  ·have h2:klt k b.1=true:=by simpa using(List.mem_filter.1 hb).2
   exact qcy h1 h2
theorem qfa {a b:ByteArray} (h1:klt a b=false) (h2:klt b a=false):a=b:=qz9 h1 h2
theorem qdf {α:Type} {l:List (ByteArray×α)} {k:ByteArray} {x:α} {p:ByteArray×α}:p∈qj9 l k x↔p=(k,x)∨(p∈l∧p.1≠k):=by
 unfold qj9;simp only [List.mem_append,List.mem_cons,List.mem_filter]
 constructor
 ·rintro(⟨h1,h2⟩|h|⟨h1,h2⟩)
  ·exact .inr ⟨h1,λe=>by rw [e,qah] at h2;cases h2⟩
  ·exact .inl h
  ·exact .inr ⟨h1,λe=>by rw [e,qah] at h2;cases h2⟩
 ·rintro(h|⟨h1,h2⟩)
  ·exact .inr (.inl h)
  ·cases e1:klt p.1 k with
   |true=>exact .inl ⟨h1,rfl⟩
   |false=>
    cases e2:klt k p.1 with
    |true=>exact .inr (.inr ⟨h1,rfl⟩)
    |false=>exact absurd (qfa e1 e2) h2
theorem qbt {α:Type} {l:List (ByteArray×α)} {k:ByteArray}:qaw l k=none↔∀p∈l,p.1≠k:=by
 unfold qaw;rw [Option.map_eq_none_iff,List.find?_eq_none];simp
theorem qav {α:Type} {l:List (ByteArray×α)} (h:Kup l) {k:ByteArray} {x:α}:qaw l k=some x↔(k,x)∈l:=by
 constructor
 ·intro hg;unfold qaw at hg;obtain⟨p,hp,rfl⟩:=Option.map_eq_some_iff.1 hg;have h1:=List.mem_of_find?_eq_some hp;have h2:=List.find?_some hp;have:p.1=k:=by simpa using h2
  rw [←this];exact h1
 ·intro hm;cases hg:qaw l k with
  |none=>exact absurd rfl ((qbt.1 hg) _ hm)
  |some y=>
   unfold qaw at hg;obtain⟨p,hp,rfl⟩:=Option.map_eq_some_iff.1 hg;have h1:=List.mem_of_find?_eq_some hp;have h2:p.1=k:=by simpa using List.find?_some hp
   obtain⟨i,hi,hi'⟩:=List.getElem_of_mem h1;obtain⟨j,hj,hj'⟩:=List.getElem_of_mem hm;have hw:=List.pairwise_iff_getElem.1 h;rcases Nat.lt_trichotomy i j with hlt|rfl|hlt
   ·have:=hw i j hi hj hlt;rw [hi',hj',h2,qah] at this;cases this
   ·rw [hi'] at hj';rw [hj']
   ·have:=hw j i hj hi hlt;rw [hi',hj',h2,qah] at this;cases this
def qbk (S:Stl) (k:ByteArray):List Ver:=(qaw S k).getD []
def qdj (S:Stl) (k:ByteArray) (t:Int):Option Ver:=atL (qbk S k) t
def qjt (S:Stl) (k:ByteArray) (x:Ver):Stl:=qj9 S k (qfl (qbk S k) x)
def PM.new:PM:=⟨[], [],0,0, [], []⟩
def PM.get (P:PM) (n:Int):Option Tx:=(P.live.find? λx=>decide (x.1=n)).map (·.2)
def PM.set (P:PM) (n:Int) (t:Tx):PM:={P with live:=P.live.map λx=>if x.1=n then(n,t) else x}
def PM.del (P:PM) (n:Int):PM:={P with live:=P.live.filter λx=> !decide (x.1=n)}
def PM.drop (P:PM) (n:Int):PM:={P.del n with L:=P.L.filter λl=> !decide (l.owner=n)}
def PM.safe (P:PM):Int:=P.live.foldl (λt x=>if x.2.snap then t else min t (x.2.sp.lo-1)) P.clock
def PM.least (P:PM):Int:=P.live.foldl (λt x=>if x.2.snap then min t x.2.sp.lo else t) P.safe
def PM.one (P:PM) (t:Tx):(Int×Int)×PM:=if P.live.length=16 then((0,5),P) else((P.last+1,0),{P with last:=P.last+1,live:=P.live++ [(P.last+1,t)]})
def PM.begin (P:PM) (w:Int):(Int×Int)×PM:=
 if w<1∨1000<w then((0,1),P) else if 2^40≤P.clock then((0,6),P) else P.one ⟨false,⟨P.clock+1,min (P.clock+w) (2^40)⟩, []⟩
def PM.snapshot (P:PM):(Int×Int)×PM:=P.one ⟨true,⟨P.safe,P.safe⟩, []⟩
def kOk (k:ByteArray):Bool:=decide (1≤k.size∧k.size≤32)
def PM.see (P:PM) (n:Int) (t:Tx) (a:Int) (fr til:ByteArray) (s:Sn):Bool×PM:=
 if t.sp.hi≤a then(false,P.drop n) else(true,{P.set n ⟨t.snap,⟨max t.sp.lo (a+1),t.sp.hi⟩,t.wr⟩ with L:=P.L++ [⟨n,fr,til,s⟩]})
def qdl (o:Option Ver):Ver:=o.getD ⟨0,⟨#[]⟩,false⟩
def PM.read (P:PM) (n:Int) (k:ByteArray):(ByteArray×Bool×Int)×PM:=match P.get n with
 |none=>((⟨#[]⟩,false,4),P)
 |some t=>if kOk k=false then((⟨#[]⟩,false,2),P) else match qaw t.wr k with
  |some v=>((v.val, !v.gone,0),P)
  |none=>
   let o:=qdj P.S k t.sp.hi
   let v:=qdl o
   if t.snap then((v.val,o.isSome&& !v.gone,0),P) else
    let r:=P.see n t v.at_ k k ⟨v.at_+1,t.sp.hi⟩
    if r.1 then((v.val,o.isSome&& !v.gone,0),r.2) else((⟨#[]⟩,false,7),r.2)
def qbq (S:Stl) (wr:List (ByteArray×Ver)) (fr til:ByteArray) (hi:Int):List (ByteArray×Ver):=
 S.filterMap λs=>if klt s.1 fr||klt til s.1||(qaw wr s.1).isSome then none else(atL s.2 hi).map λv=>(s.1,v)
def qbf (l:List (ByteArray×Ver)):Int:=l.foldl (λa p=>max a p.2.at_) 0
def qe4 (S:Stl) (wr:List (ByteArray×Ver)) (fr til:ByteArray) (hi:Int):List (ByteArray×ByteArray):=
 wr.foldl (λl p=>if klt p.1 fr||klt til p.1||p.2.gone then l else qj9 l p.1 p.2.val) ((qbq S wr fr til hi).filterMap λp=>if p.2.gone then none else some (p.1,p.2.val))
def PM.scan (P:PM) (n:Int) (fr til:ByteArray) (many:Int):(List (ByteArray×ByteArray)×Int)×PM:=match P.get n with
 |none=>(([],4),P)
 |some t=>if kOk fr=false∨kOk til=false∨klt til fr=true then(([],2),P) else if many<1∨50<many then(([],1),P) else
  let out:=(qe4 P.S t.wr fr til t.sp.hi).take many.toNat
  if t.snap then((out,0),P) else
   let r:=P.see n t (qbf (qbq P.S t.wr fr til t.sp.hi)) fr til ⟨1,t.sp.hi⟩
   if r.1 then((out,0),r.2) else(([],7),r.2)
def PM.write (P:PM) (n:Int) (k:ByteArray) (v:Ver):Int×PM:=match P.get n with
 |none=>(4,P)
 |some t=>if t.snap then(8,P) else if kOk k=false then(2,P) else if 200<v.val.size then(3,P) else(0,P.set n ⟨t.snap,t.sp,qj9 t.wr k v⟩)
def PM.free (P:PM) (n:Int) (t:Tx) (a:Int):Bool:= !decide (a∈P.taken)&&P.L.all λl=>t.wr.all λw=>decide (l.owner=n)||klt w.1 l.frm||klt l.til w.1||decide (a<l.sp.lo)||decide (l.sp.hi<a)
def PM.point (P:PM) (n:Int):Int×Int:=match P.get n with
 |none=>(0,4)
 |some t=>if t.snap then(t.sp.lo,0) else match(List.range (t.sp.hi-t.sp.lo+1).toNat).find? λi:Nat=>P.free n t (t.sp.lo+(i:Int)) with
  |some i=>(t.sp.lo+(i:Int),0)
  |none=>(0,7)
def qqk (n a:Int) (L:List Lk):List Lk:=(L.map λl=>if l.owner=n then⟨0,l.frm,l.til,⟨l.sp.lo,min l.sp.hi a⟩⟩ else l).filter λl=>full l.sp
def qkb (t:Int) (L:List Lk):List Lk:=(L.map λl=>if l.owner=0 then⟨l.owner,l.frm,l.til,⟨max l.sp.lo (t+1),l.sp.hi⟩⟩ else l).filter λl=>full l.sp
def PM.commit (P:PM) (n:Int):(Int×Int)×PM:=match P.get n with
 |none=>((0,4),P)
 |some t=>if(P.point n).2=7 then((0,7),P.drop n) else if t.snap then(((P.point n).1,0),P.drop n) else
  (P.point n,{P.del n with S:=t.wr.foldl (λS w=>qjt S w.1 ⟨(P.point n).1,w.2.val,w.2.gone⟩) P.S,L:=qqk n (P.point n).1 P.L,taken:=P.taken++ [(P.point n).1],clock:=max P.clock (P.point n).1})
def PM.abort (P:PM) (n:Int):Int×PM:=match P.get n with
 |none=>(4,P)
 |some _=>(0,P.drop n)
def PM.tick (P:PM) (by_:Int):Int×PM:=if 2^40-P.clock<by_ then(6,P) else(0,{P with clock:=P.clock+by_})
def qw6 (t:Int) (s:ByteArray×List Ver):ByteArray×List Ver:=(s.1,qer s.2 t)
def qen (t:Int) (S:Stl):Stl:=(S.map (qw6 t)).filter λs=> !decide (s.2.length=0)
def qel (t:Int) (S:Stl):Nat:=(S.map λs=>s.2.length-(qer s.2 t).length).sum
def PM.purge (P:PM) (t:Int):(Int×Int)×PM:=if P.least<t then((0,1),P) else((qel t P.S,0),{P with S:=qen t P.S,L:=qkb t P.L,taken:=P.taken.filter λa=> !decide (a≤t)})
def Gv (v:Ver):Prop:=v.gone=true→v.val=⟨#[]⟩
structure TxOk (clock:Int) (t:Tx):Prop where
 w:t.snap=false→1≤t.sp.lo∧t.sp.lo≤t.sp.hi∧t.sp.hi≤2^40
 s:t.snap=true→t.sp.lo=t.sp.hi∧0≤t.sp.lo∧t.sp.lo≤clock∧t.wr= []
 up:Kup t.wr
 wr:∀p∈t.wr,kOk p.1=true∧p.2.at_=0∧p.2.val.size≤200∧Gv p.2
theorem TxOk.later {c d:Int} {t:Tx} (h:TxOk c t) (hd:c≤d):TxOk d t:=⟨h.w,λk=>by obtain⟨a,b,e,f⟩:=h.s k;exact⟨a,b,by omega,f⟩,h.up,h.wr⟩
def LkOk (live:List (Int×Tx)) (l:Lk):Prop:=(l.owner=0∨∃x∈live,x.1=l.owner∧x.2.snap=false)∧1≤l.sp.lo∧l.sp.lo≤l.sp.hi∧l.sp.hi≤2^40
def qdi (P:PM) (b:Int):Prop:=b≤P.clock∧(∀x∈P.live,x.2.snap=false→b<x.2.sp.lo)∧(∀s∈P.S,∀v∈s.2,v.at_∈P.taken∨v.at_≤b)
structure PM.Ok (P:PM):Prop where
 nums:P.live.Pairwise λa c=>a.1<c.1
 last:∀x∈P.live,1≤x.1∧x.1≤P.last
 last0:0≤P.last
 few:P.live.length≤16
 clock:0≤P.clock∧P.clock≤2^40
 tx:∀x∈P.live,TxOk P.clock x.2
 ks:KS P.S
 st:∀s∈P.S,kOk s.1=true∧s.2≠ []∧Srt s.2∧∀v∈s.2,1≤v.at_∧v.at_≤P.clock∧v.val.size≤200∧Gv v
 lk:∀l∈P.L,LkOk P.live l
 tk:∀a∈P.taken,1≤a∧a≤P.clock
theorem ok_new:PM.new.Ok:=⟨List.Pairwise.nil,by simp [PM.new],by simp [PM.new],by simp [PM.new],by simp [PM.new],by simp [PM.new],List.Pairwise.nil,by simp [PM.new],by simp [PM.new],by simp [PM.new]⟩
theorem qfx {l:List (Int×Tx)} (h:l.Pairwise λa c=>a.1<c.1) {x:Int×Tx} (hx:x∈l):l.find? (λy=>decide (y.1=x.1))=some x:=by
 induction l with
 |nil=>cases hx
 |cons y l ih=>
  rw [List.find?_cons];obtain⟨h1,h2⟩:=List.pairwise_cons.1 h;rcases List.mem_cons.1 hx with rfl|hx
  ·simp
  ·have:¬y.1=x.1:=by have:=h1 x hx;omega
   rw [decide_eq_false this];exact ih h2 hx
theorem qao {P:PM} (h:P.Ok) {n:Int} {t:Tx}:P.get n=some t↔(n,t)∈P.live:=by
 unfold PM.get
 constructor
 ·intro hg;obtain⟨x,hx,rfl⟩:=Option.map_eq_some_iff.1 hg;have h1:=List.mem_of_find?_eq_some hx;have h2:x.1=n:=by simpa using List.find?_some hx
  rw [←h2];exact h1
 ·intro hm;rw [qfx h.nums hm];rfl
theorem get_none {P:PM} {n:Int}:P.get n=none↔∀x∈P.live,x.1≠n:=by
 unfold PM.get;rw [Option.map_eq_none_iff,List.find?_eq_none];simp
theorem qsv {l:List (Int×Tx)} {n:Int} {t:Tx} {x:Int×Tx} (h:x∈l.map λx=>if x.1=n then(n,t) else x):x=(n,t)∨(x∈l∧x.1≠n):=by
 obtain⟨y,hy,rfl⟩:=List.mem_map.1 h;by_cases e:y.1=n
 ·rw [if_pos e];exact .inl rfl
 ·rw [if_neg e];exact .inr ⟨hy,e⟩
theorem qvi {l:List (Int×Tx)} {n:Int} {t:Tx} (h:l.Pairwise λa c=>a.1<c.1):(l.map λx=>if x.1=n then(n,t) else x).Pairwise λa c=>a.1<c.1:=by
 rw [List.pairwise_map];refine h.imp fun {a c} hac=> ?_
 have e:∀x:Int×Tx,(if x.1=n then(n,t) else x).1=x.1:=λx=>by split<;>simp_all
 rw [e,e];exact hac
theorem qr5 {α:Type} (f:Int→α→Int) (g:α→Option Int) (hf:∀a x,f a x=match g x with|some b=>min a b|none=>a) (c:Int):∀(l:List α) (a:Int),c≤l.foldl f a↔c≤a∧∀x∈l,∀b,g x=some b→c≤b:=by
 intro l
 induction l with
 |nil=>intro a;simp
 |cons x l ih=>
  intro a;rw [List.foldl_cons,ih,hf];cases hg:g x with
  |none=>
   simp only [List.mem_cons,forall_eq_or_imp,hg]
   constructor
   ·rintro⟨h1,h2⟩;exact⟨h1,(λb hb=>by cases hb),h2⟩
   ·rintro⟨h1,_,h2⟩;exact⟨h1,h2⟩
  |some b=>
   simp only [List.mem_cons,forall_eq_or_imp,hg]
   constructor
   ·rintro⟨h1,h2⟩;exact⟨by omega,λb' hb=>by cases hb;omega,h2⟩
   ·rintro⟨h1,h2,h3⟩;exact⟨by have:=h2 b rfl;omega,h3⟩
theorem qoa (P:PM) (c:Int):c≤P.safe↔c≤P.clock∧∀x∈P.live,x.2.snap=false→c<x.2.sp.lo:=by
 unfold PM.safe;rw [qr5 _ (λx:Int×Tx=>if x.2.snap then none else some (x.2.sp.lo-1)) (λa x=>by cases x.2.snap<;>rfl)]
 constructor
 ·rintro⟨h1,h2⟩;refine⟨h1,λx hx hs=> ?_⟩
  have:=h2 x hx (x.2.sp.lo-1) (by rw [hs];rfl)
  omega
 ·rintro⟨h1,h2⟩;refine⟨h1,λx hx b hb=> ?_⟩
  cases hs:x.2.snap with
  |true=>rw [hs] at hb;cases hb
  |false=>
   rw [hs] at hb;cases hb;have:=h2 x hx hs;omega
theorem qko (P:PM) (c:Int):c≤P.least↔c≤P.safe∧∀x∈P.live,x.2.snap=true→c≤x.2.sp.lo:=by
 unfold PM.least;rw [qr5 _ (λx:Int×Tx=>if x.2.snap then some x.2.sp.lo else none) (λa x=>by cases x.2.snap<;>rfl)]
 constructor
 ·rintro⟨h1,h2⟩;exact⟨h1,λx hx hs=>h2 x hx _ (by rw [hs];rfl)⟩
 ·rintro⟨h1,h2⟩;refine⟨h1,λx hx b hb=> ?_⟩
  cases hs:x.2.snap with
  |false=>rw [hs] at hb;cases hb
  |true=>rw [hs] at hb;cases hb;exact h2 x hx hs
theorem qtt (P:PM):P.safe≤P.clock:=((qoa P P.safe).1 (Int.le_refl _)).1
theorem qvx (P:PM):P.least≤P.safe:=((qko P P.least).1 (Int.le_refl _)).1
theorem qlv {P:PM} (h:P.Ok):0≤P.safe:=(qoa P 0).2 ⟨h.clock.1,λx hx hs=>by have:=(h.tx x hx).w hs;omega⟩
theorem qk0 {P:PM} (h:P.Ok):0≤P.least:=(qko P 0).2 ⟨qlv h,λx hx hs=>((h.tx x hx).s hs).2.1⟩
theorem ok_one {P:PM} (h:P.Ok) {t:Tx} (ht:TxOk P.clock t):(P.one t).2.Ok:=by
 unfold PM.one;split
 ·exact h
 ·rename_i hl;have hf:=h.few;have h0:=h.last0;refine⟨?_,λx hx=> ?_,by show 0≤P.last+1;omega,by show(P.live++ [(P.last+1,t)]).length≤16;simp;omega,h.clock,λx hx=> ?_,h.ks,h.st,λl hl=> ?_,h.tk⟩
  ·show(P.live++ [(P.last+1,t)]).Pairwise _
   rw [List.pairwise_append];exact⟨h.nums,List.pairwise_singleton _ _,λa ha b hb=>by rw [List.mem_singleton.1 hb];have:=h.last a ha;show a.1<P.last+1;omega⟩
  ·show 1≤x.1∧x.1≤P.last+1
   rcases List.mem_append.1 hx with hx|hx
   ·have:=h.last x hx;omega
   ·rw [List.mem_singleton.1 hx];show 1≤P.last+1∧P.last+1≤P.last+1;omega
  ·rcases List.mem_append.1 hx with hx|hx
   ·exact h.tx x hx
   ·rw [List.mem_singleton.1 hx];exact ht
  ·obtain⟨a,b⟩:=h.lk l hl;refine⟨?_,b⟩;rcases a with a|⟨x,hx,e⟩
   ·exact .inl a
   ·exact .inr ⟨x,List.mem_append_left _ hx,e⟩
theorem ok_begin {P:PM} (h:P.Ok) (w:Int):(P.begin w).2.Ok:=by
 unfold PM.begin;split
 ·exact h
 ·split
  ·exact h
  ·have hc:=h.clock;refine ok_one h ⟨λ_=> ?_,(λk=>by cases k),List.Pairwise.nil,(λp hp=>by cases hp)⟩
   show 1≤P.clock+1∧P.clock+1≤min (P.clock+w) (2^40)∧min (P.clock+w) (2^40)≤2^40
   omega
theorem qt4 {P:PM} (h:P.Ok):P.snapshot.2.Ok:=by
 unfold PM.snapshot;have h1:=qtt P;have h2:=qlv h;exact ok_one h ⟨(λk=>by cases k),λ_=>⟨rfl,h2,h1,rfl⟩,List.Pairwise.nil,(λp hp=>by cases hp)⟩
theorem ok_del {P:PM} (h:P.Ok) (n:Int) (L':List Lk) (hL:∀l∈L',LkOk (P.live.filter λx=> !decide (x.1=n)) l):({P.del n with L:=L'}:PM).Ok:=
 ⟨List.Pairwise.filter _ h.nums,λx hx=>h.last x (List.mem_filter.1 hx).1,h.last0,Nat.le_trans (List.length_filter_le _ _) h.few,h.clock,λx hx=>h.tx x (List.mem_filter.1 hx).1,h.ks,h.st,hL,h.tk⟩
theorem lk_del {P:PM} (h:P.Ok) {n:Int} {l:Lk} (hl:l∈P.L) (hn:l.owner≠n):LkOk (P.live.filter λx=> !decide (x.1=n)) l:=by
 obtain⟨a,b⟩:=h.lk l hl;refine⟨?_,b⟩;rcases a with a|⟨x,hx,e1,e2⟩
 ·exact .inl a
 ·exact .inr ⟨x,List.mem_filter.2 ⟨hx,by rw [e1];simpa using hn⟩,e1,e2⟩
theorem qnt {P:PM} (h:P.Ok) (n:Int):(P.drop n).Ok:=by
 unfold PM.drop;refine ok_del h n _ λl hl=> ?_
 obtain⟨h1,h2⟩:=List.mem_filter.1 hl;exact lk_del h h1 (by simpa using h2)
theorem ok_set {P:PM} (h:P.Ok) {n:Int} {t u:Tx} (hg:(n,t)∈P.live) (hu:TxOk P.clock u) (hs:u.snap=t.snap) (L':List Lk) (hL:∀l∈L',l∈P.L∨(l.owner=n∧u.snap=false∧1≤l.sp.lo∧l.sp.lo≤l.sp.hi∧l.sp.hi≤2^40)):({P.set n u with L:=L'}:PM).Ok:=by
 have hn:(n,u)∈P.live.map λx=>if x.1=n then(n,u) else x:=List.mem_map.2 ⟨_,hg,if_pos rfl⟩
 refine⟨qvi h.nums,λx hx=> ?_,h.last0,by show(P.live.map _).length≤16;rw [List.length_map];exact h.few,h.clock,λx hx=> ?_,h.ks,h.st,λl hl=> ?_,h.tk⟩
 ·rcases qsv hx with rfl|⟨h1,_⟩
  ·exact h.last (n,t) hg
  ·exact h.last x h1
 ·rcases qsv hx with rfl|⟨h1,_⟩
  ·exact hu
  ·exact h.tx x h1
 ·rcases hL l hl with h1|⟨h1,h2,h3⟩
  ·obtain⟨a,b⟩:=h.lk l h1;refine⟨?_,b⟩;rcases a with a|⟨x,hx,e1,e2⟩
   ·exact .inl a
   ·refine .inr ?_;by_cases e:x.1=n
    ·refine⟨_,hn,by rw [←e1,e], ?_⟩
     have hx2:=qfx h.nums hx;have hg2:=qfx h.nums hg;simp only [e] at hx2 hg2;rw [hx2] at hg2;cases hg2;rw [hs];exact e2
    ·exact⟨x,List.mem_map.2 ⟨x,hx,if_neg e⟩,e1,e2⟩
  ·exact⟨.inr ⟨_,hn,h1.symm,h2⟩,h3⟩
theorem ok_see {P:PM} (h:P.Ok) {n:Int} {t:Tx} (hg:(n,t)∈P.live) (hw:t.snap=false) {a:Int} (ha:0≤a) (fr til:ByteArray) {s:Sn} (hs:1≤s.lo∧(a<t.sp.hi→s.lo≤s.hi)∧s.hi≤2^40):(P.see n t a fr til s).2.Ok:=by
 unfold PM.see;split
 ·exact qnt h n
 ·rename_i hc;have ht:=h.tx _ hg;have hx:=ht.w hw;simp only at hx ht;have hu:TxOk P.clock ⟨t.snap,⟨max t.sp.lo (a+1),t.sp.hi⟩,t.wr⟩:=by
   refine⟨λ_=> ?_,λk=> ?_,ht.up,ht.wr⟩
   ·show 1≤max t.sp.lo (a+1)∧max t.sp.lo (a+1)≤t.sp.hi∧t.sp.hi≤2^40
    omega
   ·have k':t.snap=true:=k;rw [hw] at k';cases k'
  have hk:=ok_set h hg hu rfl (P.L++ [⟨n,fr,til,s⟩]) λl hl=>by
   rcases List.mem_append.1 hl with hl|hl
   ·exact .inl hl
   ·rw [List.mem_singleton.1 hl];exact .inr ⟨rfl,hw,hs.1,hs.2.1 (by omega),hs.2.2⟩
  exact hk
theorem ql6 {S:Stl} (h:KS S) {k:ByteArray} {v:Ver} (hv:v∈qbk S k):∃s∈S,s.1=k∧s.2=qbk S k:=by
 unfold qbk at hv⊢;cases hg:qaw S k with
 |none=>rw [hg] at hv;cases hv
 |some c=>
  have:=(qav (l:=S) h).1 hg;exact⟨_,this,rfl,rfl⟩
theorem zb5 {P:PM} (h:P.Ok) (k:ByteArray):Srt (qbk P.S k):=by
 unfold qbk;cases hg:qaw P.S k with
 |none=>exact List.Pairwise.nil
 |some c=>
  have:=(qav (l:=P.S) h.ks).1 hg;exact(h.st _ this).2.2.1
theorem zat {P:PM} (h:P.Ok) {k:ByteArray} {v:Ver} (hv:v∈qbk P.S k):1≤v.at_∧v.at_≤P.clock∧v.val.size≤200∧Gv v:=by
 obtain⟨s,hs,_,e⟩:=ql6 h.ks hv;rw [←e] at hv;exact(h.st s hs).2.2.2 v hv
theorem qgb {P:PM} (h:P.Ok) {k:ByteArray} {t:Int} {v:Ver} (hv:qdj P.S k t=some v):1≤v.at_∧v.at_≤P.clock∧v.at_≤t∧v.val.size≤200∧Gv v:=by
 obtain⟨a,b,_⟩:=qsc (zb5 h k) hv;obtain⟨c,d,e⟩:=zat h a;exact⟨c,d,b,e⟩
theorem verD_at {P:PM} (h:P.Ok) (k:ByteArray) (t:Int):0≤(qdl (qdj P.S k t)).at_:=by
 cases hv:qdj P.S k t with
 |none=>exact Int.le_refl _
 |some v=>have:=qgb h hv;show 0≤v.at_;omega
theorem ok_read {P:PM} (h:P.Ok) (n:Int) (k:ByteArray):(P.read n k).2.Ok:=by
 unfold PM.read;cases hg:P.get n with
 |none=>exact h
 |some t=>
  have hm:=(qao h).1 hg;simp only;split
  ·exact h
  ·cases qaw t.wr k with
   |some v=>exact h
   |none=>
    simp only;split
    ·exact h
    ·rename_i hs;have hs':t.snap=false:=by simpa using hs
     have hw:=(h.tx _ hm).w hs';have ha:=verD_at h k t.sp.hi;have:=ok_see h hm hs' ha k k (s:=⟨(qdl (qdj P.S k t.sp.hi)).at_+1,t.sp.hi⟩) ⟨by simp only;omega,by simp only;omega,by simp only at hw⊢;omega⟩
     split<;>exact this
theorem qfp (l:List (ByteArray×Ver)):0≤qbf l:=by
 unfold qbf;have:∀(l:List (ByteArray×Ver)) (a:Int),0≤a→0≤l.foldl (λa p=>max a p.2.at_) a:=by
  intro l
  induction l with
  |nil=>intro a ha;exact ha
  |cons x l ih=>intro a ha;rw [List.foldl_cons];exact ih _ (by omega)
 exact this l 0 (Int.le_refl _)
theorem ok_scan {P:PM} (h:P.Ok) (n:Int) (fr til:ByteArray) (many:Int):(P.scan n fr til many).2.Ok:=by
 unfold PM.scan;cases hg:P.get n with
 |none=>exact h
 |some t=>
  have hm:=(qao h).1 hg;simp only;split
  ·exact h
  ·split
   ·exact h
   ·split
    ·exact h
    ·rename_i hs;have hs':t.snap=false:=by simpa using hs
     have hw:=(h.tx _ hm).w hs';have ha:=qfp (qbq P.S t.wr fr til t.sp.hi);have:=ok_see h hm hs' ha fr til (s:=⟨1,t.sp.hi⟩) ⟨by simp,by simp only at hw⊢;omega,by simp only at hw⊢;omega⟩
     split<;>exact this
theorem ok_write {P:PM} (h:P.Ok) (n:Int) (k:ByteArray) (v:Ver) (hv:v.at_=0) (hgv:Gv v):(P.write n k v).2.Ok:=by
 unfold PM.write;cases hg:P.get n with
 |none=>exact h
 |some t=>
  have hm:=(qao h).1 hg;have ht:=h.tx _ hm;simp only at ht⊢;split
  ·exact h
  ·rename_i hs;have hs':t.snap=false:=by simpa using hs
   split
   ·exact h
   ·rename_i hk;split
    ·exact h
    ·rename_i hz;have hu:TxOk P.clock ⟨t.snap,t.sp,qj9 t.wr k v⟩:=by
      refine⟨ht.w,λe=> ?_,ht.up.put k v,λp hp=> ?_⟩
      ·have e':t.snap=true:=e;rw [hs'] at e';cases e'
      ·rcases qdf.1 hp with rfl|⟨hp,_⟩
       ·exact⟨by simpa using hk,hv,(by show v.val.size≤200;omega),hgv⟩
       ·exact ht.wr p hp
     exact ok_set h hm hu rfl P.L λl hl=> .inl hl
theorem ok_abort {P:PM} (h:P.Ok) (n:Int):(P.abort n).2.Ok:=by
 unfold PM.abort;cases P.get n with
 |none=>exact h
 |some t=>exact qnt h n
theorem ok_tick {P:PM} (h:P.Ok) (b:Int) (hb:0≤b):(P.tick b).2.Ok:=by
 unfold PM.tick;split
 ·exact h
 ·have hc:=h.clock;refine⟨h.nums,h.last,h.last0,h.few,by show 0≤P.clock+b∧P.clock+b≤2^40;omega,λx hx=>(h.tx x hx).later (by show P.clock≤P.clock+b;omega),h.ks,λs hs=> ?_,h.lk,λa ha=> ?_⟩
  ·obtain⟨a,b',c,d⟩:=h.st s hs;refine⟨a,b',c,λv hv=> ?_⟩
   obtain⟨d1,d2,d3⟩:=d v hv;exact⟨d1,by show v.at_≤P.clock+b;omega,d3⟩
  ·have:=h.tk a ha;show 1≤a∧a≤P.clock+b
   omega
theorem qbw {P:PM} (h:P.Ok) {n:Int} {t:Tx} (hg:P.get n=some t) (hs:t.snap=false):
  (P.point n=(0,7)∧∀a,t.sp.lo≤a→a≤t.sp.hi→P.free n t a=false)∨∃a,P.point n=(a,0)∧t.sp.lo≤a∧a≤t.sp.hi∧P.free n t a=true∧∀b,t.sp.lo≤b→b<a→P.free n t b=false:=by
 have hw:=(h.tx _ ((qao h).1 hg)).w hs;simp only at hw;unfold PM.point;rw [hg];simp only [hs,Bool.false_eq_true,if_false];cases hf:(List.range (t.sp.hi-t.sp.lo+1).toNat).find? λi:Nat=>P.free n t (t.sp.lo+(i:Int)) with
 |none=>
  refine .inl ⟨rfl,λa h1 h2=> ?_⟩
  have:=List.find?_eq_none.1 hf (a-t.sp.lo).toNat (List.mem_range.2 (by omega))
  have e:t.sp.lo+((a-t.sp.lo).toNat:Int)=a:=by omega
  rw [e] at this;simpa using this
 |some i=>
  have h1:=List.find?_some hf;have h2:=List.mem_range.1 (List.mem_of_find?_eq_some hf);refine .inr ⟨_,rfl,by omega,by omega,h1,λb hb1 hb2=> ?_⟩
  obtain⟨l1,l2,e,hl⟩:=(List.find?_eq_some_iff_append.1 hf).2;have hlen:l1.length=i:=by
   have e1:=congrArg (λl=>l[l1.length]?) e
   simp only [List.getElem?_append_right (Nat.le_refl _),Nat.sub_self,List.getElem?_cons_zero] at e1;have hlt:l1.length<(t.sp.hi-t.sp.lo+1).toNat:=by
    have:=congrArg List.length e;simp at this;omega
   rw [List.getElem?_range hlt] at e1;exact Option.some.inj e1
  have hb:(b-t.sp.lo).toNat∈l1:=by
   have e1:=congrArg (λl=>l[(b-t.sp.lo).toNat]?) e
   have hlt:(b-t.sp.lo).toNat<l1.length:=by omega
   simp only [List.getElem?_append_left hlt] at e1;rw [List.getElem?_range (by omega)] at e1
   exact List.mem_of_getElem? e1.symm
  have:=hl _ hb;have e2:t.sp.lo+((b-t.sp.lo).toNat:Int)=b:=by omega
  rw [e2] at this;simpa using this
theorem qf0 {P:PM} {n:Int} {t:Tx} (hg:P.get n=some t) (hs:t.snap=true):P.point n=(t.sp.lo,0):=by
 unfold PM.point;rw [hg];simp [hs]
theorem qn2 {P:PM} {n:Int} {t:Tx} {a:Int} (h:P.free n t a=true):a∉P.taken:=by
 unfold PM.free at h;intro hm;simp [hm] at h
def SOk (c:Int) (S:Stl):Prop:=KS S∧∀s∈S,kOk s.1=true∧s.2≠ []∧Srt s.2∧∀v∈s.2,1≤v.at_∧v.at_≤c∧v.val.size≤200∧Gv v
theorem SOk.get {c:Int} {S:Stl} (h:SOk c S) (k:ByteArray):Srt (qbk S k)∧∀v∈qbk S k,1≤v.at_∧v.at_≤c∧v.val.size≤200∧Gv v:=by
 unfold qbk;cases hg:qaw S k with
 |none=>exact⟨List.Pairwise.nil,λv hv=>by cases hv⟩
 |some l=>
  have:=h.2 _ ((qav (l:=S) h.1).1 hg);exact⟨this.2.2.1,this.2.2.2⟩
theorem SOk.put {c:Int} {S:Stl} (h:SOk c S) {k:ByteArray} {x:Ver} (hk:kOk k=true) (hx:1≤x.at_∧x.at_≤c∧x.val.size≤200∧Gv x):SOk c (qjt S k x):=by
 obtain⟨g1,g2⟩:=h.get k;refine⟨Kup.put (l:=S) h.1 k _,λs hs=> ?_⟩
 rcases qdf.1 hs with rfl|⟨hs,_⟩
 ·refine⟨hk, ?_,g1.put x,λv hv=> ?_⟩
  ·show qfl _ _≠ []
   unfold qfl;simp
  ·rcases qsw.1 hv with rfl|⟨hv,_⟩
   ·exact hx
   ·exact g2 v hv
 ·exact h.2 s hs
theorem SOk.later {c d:Int} {S:Stl} (h:SOk c S) (hd:c≤d):SOk d S:=⟨h.1,λs hs=>by
 obtain⟨a,b,e,f⟩:=h.2 s hs;refine⟨a,b,e,λv hv=> ?_⟩
 obtain⟨f1,f2,f3⟩:=f v hv
 exact⟨f1,by omega,f3⟩⟩
def qcp (a:Int) (wr:List (ByteArray×Ver)) (S:Stl):Stl:=wr.foldl (λS w=>qjt S w.1 ⟨a,w.2.val,w.2.gone⟩) S
theorem SOk.puts {c a:Int} (ha:1≤a∧a≤c):∀{wr:List (ByteArray×Ver)} {S:Stl},SOk c S→(∀p∈wr,kOk p.1=true∧p.2.at_=0∧p.2.val.size≤200∧Gv p.2)→SOk c (qcp a wr S)
 | [],S,h,_=>h
 |p::wr,S,h,hw=>by
  have hp:=hw p (by simp)
  have h2:=h.put hp.1 (x:=⟨a,p.2.val,p.2.gone⟩) ⟨ha.1,ha.2,hp.2.2⟩;show SOk c (qcp a wr (qjt S p.1 ⟨a,p.2.val,p.2.gone⟩))
  exact SOk.puts ha h2 λq hq=>hw q (by simp [hq])
theorem qv5 {a:Int}:∀{wr:List (ByteArray×Ver)} {S:Stl},KS S→∀s∈qcp a wr S,∀v∈s.2,v.at_=a∨∃s'∈S,v∈s'.2
 | [],S,h,s,hs,v,hv=> .inr ⟨s,hs,hv⟩
 |p::wr,S,h,s,hs,v,hv=>by
  have hk:KS (qjt S p.1 ⟨a,p.2.val,p.2.gone⟩):=Kup.put (l:=S) h p.1 _;rcases qv5 (wr:=wr) hk s hs v hv with h1|⟨s',hs',hv'⟩
  ·exact .inl h1
  ·rcases qdf.1 hs' with rfl|⟨hs',_⟩
   ·rcases qsw.1 hv' with rfl|⟨hv',_⟩
    ·exact .inl rfl
    ·obtain⟨s2,h2,_,e⟩:=ql6 h hv';exact .inr ⟨s2,h2,by rw [e];exact hv'⟩
   ·exact .inr ⟨s',hs',hv'⟩
theorem Ok.sok {P:PM} (h:P.Ok):SOk P.clock P.S:=⟨h.ks,h.st⟩
theorem qda {P:PM} {n:Int} {t:Tx} {a:Int} (hg:P.get n=some t) (hs:t.snap=false) (hp:P.point n=(a,0)):
  P.commit n=((a,0),{P.del n with S:=qcp a t.wr P.S,L:=qqk n a P.L,taken:=P.taken++ [a],clock:=max P.clock a}):=by
 unfold PM.commit;rw [hg];simp only [hp,hs]
 rfl
theorem qcm {P:PM} {n:Int} {t:Tx} (hg:P.get n=some t) (hp:P.point n=(0,7)):P.commit n=((0,7),P.drop n):=by
 unfold PM.commit;rw [hg];simp only [hp,if_true]
theorem qem {P:PM} {n:Int} {t:Tx} (hg:P.get n=some t) (hs:t.snap=true):P.commit n=((t.sp.lo,0),P.drop n):=by
 unfold PM.commit;rw [hg];simp only [qf0 hg hs,hs]
 rfl
theorem ok_frz {P:PM} (h:P.Ok) (n a:Int) (ha:a≤2^40):∀l∈qqk n a P.L,LkOk (P.live.filter λx=> !decide (x.1=n)) l:=by
 intro l hl;unfold qqk at hl;obtain⟨hl,hf⟩:=List.mem_filter.1 hl;obtain⟨u,hu,rfl⟩:=List.mem_map.1 hl;by_cases e:u.owner=n
 ·rw [if_pos e] at hf⊢;obtain⟨_,b1,b2,b3⟩:=h.lk u hu;have hf':u.sp.lo≤min u.sp.hi a:=by simpa [full] using hf
  exact⟨.inl rfl,b1,hf',by show min u.sp.hi a≤2^40;omega⟩
 ·rw [if_neg e] at hf⊢;exact lk_del h hu e
theorem qyr {P:PM} (h:P.Ok) (n:Int):(P.commit n).2.Ok:=by
 cases hg:P.get n with
 |none=>unfold PM.commit;rw [hg];exact h
 |some t=>
  cases hs:t.snap with
  |true=>rw [qem hg hs];exact qnt h n
  |false=>
   rcases qbw h hg hs with⟨hp,_⟩|⟨a,hp,ha1,ha2,hf,_⟩
   ·rw [qcm hg hp];exact qnt h n
   ·rw [qda hg hs hp];have hm:=(qao h).1 hg;have ht:=h.tx _ hm;have hw:=ht.w hs;simp only at hw ht;have hc:=h.clock;have hso:=(SOk.puts (c:=max P.clock a) (a:=a) (wr:=t.wr) ⟨by omega,by omega⟩ ((Ok.sok h).later (by omega)) ht.wr)
    refine⟨List.Pairwise.filter _ h.nums,λx hx=>h.last x (List.mem_filter.1 hx).1,h.last0,Nat.le_trans (List.length_filter_le _ _) h.few,by show 0≤max P.clock a∧max P.clock a≤2^40;omega,λx hx=>(h.tx x (List.mem_filter.1 hx).1).later (by show P.clock≤max P.clock a;omega),hso.1,hso.2,ok_frz h n a (by omega),λb hb=> ?_⟩
    show 1≤b∧b≤max P.clock a
    rcases List.mem_append.1 hb with hb|hb
    ·have:=h.tk b hb;omega
    ·rw [List.mem_singleton.1 hb];omega
theorem qok {c:List Ver} (hs:Srt c) (t:Int):∃s,qer c t=c.drop s:=by
 obtain⟨s,h,_⟩:=qqy hs t;exact⟨s,h⟩
theorem ok_prgL {P:PM} (h:P.Ok) {t:Int} (ht:0≤t):∀l∈qkb t P.L,LkOk P.live l:=by
 intro l hl;unfold qkb at hl;obtain⟨hl,hf⟩:=List.mem_filter.1 hl;obtain⟨u,hu,rfl⟩:=List.mem_map.1 hl;by_cases e:u.owner=0
 ·rw [if_pos e] at hf⊢;obtain⟨_,b1,b2,b3⟩:=h.lk u hu;have hf':max u.sp.lo (t+1)≤u.sp.hi:=by simpa [full] using hf
  exact⟨.inl e,by show 1≤max u.sp.lo (t+1);omega,hf',b3⟩
 ·rw [if_neg e];exact h.lk u hu
theorem ok_purge {P:PM} (h:P.Ok) {t:Int} (ht:0≤t):(P.purge t).2.Ok:=by
 unfold PM.purge;split
 ·exact h
 ·refine⟨h.nums,h.last,h.last0,h.few,h.clock,h.tx, ?_,λs hs=> ?_,ok_prgL h ht,λa ha=>h.tk a (List.mem_filter.1 ha).1⟩
  ·show(((P.S.map (qw6 t)).filter _).Pairwise _)
   refine List.Pairwise.filter _ ?_;rw [List.pairwise_map];exact h.ks
  ·obtain⟨h1,h2⟩:=List.mem_filter.1 hs;obtain⟨u,hu,rfl⟩:=List.mem_map.1 h1;obtain⟨a,b,c,d⟩:=h.st u hu;obtain⟨i,hi⟩:=qok c t;refine⟨a, ?_, ?_,λv hv=> ?_⟩
   ·intro e;have e':qer u.2 t= []:=e;simp [qw6,e'] at h2
   ·show Srt (qer u.2 t)
    rw [hi];exact List.Pairwise.sublist (List.drop_sublist _ _) c
   ·have hv':v∈qer u.2 t:=hv;rw [hi] at hv';exact d v (List.mem_of_mem_drop hv')
theorem qyt:qdi PM.new 0:=⟨Int.le_refl _,by simp [PM.new],by simp [PM.new]⟩
theorem qql {P:PM} {b:Int} (h:qdi P b) {t:Tx} (ht:t.snap=false→b<t.sp.lo):qdi (P.one t).2 b:=by
 unfold PM.one;split
 ·exact h
 ·refine⟨h.1,λx hx hs=> ?_,h.2.2⟩
  rcases List.mem_append.1 hx with hx|hx
  ·exact h.2.1 x hx hs
  ·rw [List.mem_singleton.1 hx] at hs⊢;exact ht hs
theorem qsk {P:PM} {b:Int} (h:qdi P b) (w:Int):qdi (P.begin w).2 b:=by
 unfold PM.begin;split
 ·exact h
 ·split
  ·exact h
  ·exact qql h λ_=>by have:=h.1;show b<P.clock+1;omega
theorem qml {P:PM} {b:Int} (h:qdi P b):qdi P.snapshot.2 b:=qql h λe=>by cases e
theorem qh5 {P:PM} {b:Int} (h:qdi P b) (n:Int):qdi (P.drop n) b:=⟨h.1,λx hx=>h.2.1 x (List.mem_filter.1 hx).1,h.2.2⟩
theorem qqq {P:PM} {b:Int} (h:qdi P b) {n:Int} {u:Tx} (hu:u.snap=false→b<u.sp.lo) (L':List Lk):qdi {P.set n u with L:=L'} b:=⟨h.1,λx hx hs=>by
 rcases qsv hx with rfl|⟨h1,_⟩
 ·exact hu hs
 ·exact h.2.1 x h1 hs,h.2.2⟩
theorem qq2 {P:PM} {b:Int} (h:qdi P b) {n:Int} {t:Tx} (hg:(n,t)∈P.live) (a:Int) (fr til:ByteArray) (s:Sn):qdi (P.see n t a fr til s).2 b:=by
 unfold PM.see;split
 ·exact qh5 h n
 ·exact qqq h (λhs=>by have:=h.2.1 _ hg hs;simp only at this⊢;omega) _
theorem qph {P:PM} (hP:P.Ok) {b:Int} (h:qdi P b) (n:Int):qdi (P.commit n).2 b:=by
 cases hg:P.get n with
 |none=>unfold PM.commit;rw [hg];exact h
 |some t=>
  cases hs:t.snap with
  |true=>rw [qem hg hs];exact qh5 h n
  |false=>
   rcases qbw hP hg hs with⟨hp,_⟩|⟨a,hp,ha1,ha2,hf,_⟩
   ·rw [qcm hg hp];exact qh5 h n
   ·rw [qda hg hs hp];refine⟨by have:=h.1;show b≤max P.clock a;omega,λx hx=>h.2.1 x (List.mem_filter.1 hx).1,λs hs v hv=> ?_⟩
    rcases qv5 hP.ks s hs v hv with h1|⟨s',hs',hv'⟩
    ·exact .inl (List.mem_append_right _ (by rw [h1];simp))
    ·rcases h.2.2 s' hs' v hv' with h2|h2
     ·exact .inl (List.mem_append_left _ h2)
     ·exact .inr h2
theorem qsh {P:PM} (hP:P.Ok) {b:Int} (h:qdi P b) (t:Int):∃b',qdi (P.purge t).2 b':=by
 unfold PM.purge;split
 ·exact⟨b,h⟩
 ·rename_i hc;have h1:=(qko P t).1 (by omega)
  have h2:=(qoa P t).1 h1.1;refine⟨max b t,by have:=h.1;have:=h2.1;show max b t≤P.clock;omega,λx hx hs=> ?_,λs hs v hv=> ?_⟩
  ·have:=h.2.1 x hx hs;have:=h2.2 x hx hs;omega
  ·obtain⟨h3,_⟩:=List.mem_filter.1 hs;obtain⟨u,hu,rfl⟩:=List.mem_map.1 h3;obtain⟨i,hi⟩:=qok (hP.st u hu).2.2.1 t;have hv':v∈qer u.2 t:=hv;rw [hi] at hv';rcases h.2.2 u hu v (List.mem_of_mem_drop hv') with h4|h4
   ·by_cases e:v.at_≤t
    ·exact .inr (by omega)
    ·exact .inl (List.mem_filter.2 ⟨h4,by simpa using e⟩)
   ·exact .inr (by omega)
theorem qsd {P:PM} {b:Int} (h:qdi P b) {n:Int} {t:Tx} (hg:(n,t)∈P.live) (hs:t.snap=false) {a:Int} (ha:t.sp.lo≤a) (hf:P.free n t a=true):∀s∈P.S,∀v∈s.2,v.at_≠a:=by
 intro s hs' v hv e;rcases h.2.2 s hs' v hv with h1|h1
 ·rw [e] at h1;exact qn2 hf h1
 ·have:=h.2.1 _ hg hs;simp only at this;omega
def wsz (l:List (Int×Tx)):Nat:=(l.map λx=>x.2.wr.length).sum
def vsz (S:Stl):Nat:=(S.map λs=>s.2.length).sum
def PM.size (P:PM):Nat:=P.L.length+P.taken.length+vsz P.S+wsz P.live
theorem qjs {n:Int} {t:Tx}:∀{l:List (Int×Tx)},(l.Pairwise λa c=>a.1<c.1)→(n,t)∈l→wsz (l.filter λx=> !decide (x.1=n))+t.wr.length=wsz l
 | [],_,h=>by cases h
 |p::l,hp,h=>by
  obtain⟨h1,h2⟩:=List.pairwise_cons.1 hp;rcases List.mem_cons.1 h with rfl|h
  ·have:(l.filter λx=> !decide (x.1=n))=l:=List.filter_eq_self.2 λx hx=>by have:=h1 x hx;simp;simp at this;omega
   simp [List.filter_cons,wsz,this];omega
  ·have h3:=h1 _ h;have ih:=qjs h2 h;have:¬p.1=n:=by simp at h3;omega
   simp [List.filter_cons,this,wsz] at ih⊢;omega
theorem za6 {n:Int} {t u:Tx}:∀{l:List (Int×Tx)},(l.Pairwise λa c=>a.1<c.1)→(n,t)∈l→wsz (l.map λx=>if x.1=n then(n,u) else x)+t.wr.length=wsz l+u.wr.length
 | [],_,h=>by cases h
 |p::l,hp,h=>by
  obtain⟨h1,h2⟩:=List.pairwise_cons.1 hp;rcases List.mem_cons.1 h with rfl|h
  ·have:(l.map λx=>if x.1=n then(n,u) else x)=l:=by
    conv=>rhs;rw [←List.map_id l]
    refine List.map_congr_left λx hx=> ?_
    have:=h1 x hx;rw [if_neg (by simp at this;omega)];rfl
   rw [List.map_cons,this];simp [wsz];omega
  ·have h3:=h1 _ h;have ih:=za6 (u:=u) h2 h;have:¬p.1=n:=by simp at h3;omega
   rw [List.map_cons,if_neg this];simp [wsz] at ih⊢;omega
theorem qnk (p:Int×Tx→Bool):∀l:List (Int×Tx),wsz (l.filter p)≤wsz l
 | []=>Nat.le_refl _
 |x::l=>by
  have ih:=qnk p l;rw [List.filter_cons];split<;>simp [wsz] at ih⊢<;>omega
theorem qn5 (k:ByteArray):∀S:Stl,vsz (S.filter λp=>klt p.1 k)+vsz (S.filter λp=>klt k p.1)+(qbk S k).length≤vsz S
 | []=>by simp [vsz,qbk,qaw]
 |s::S=>by
  have ih:=qn5 k S;unfold qbk qaw at ih⊢;rw [List.find?_cons];by_cases e:s.1=k
  ·subst e;simp [List.filter_cons,qah,vsz] at ih⊢;omega
  ·have e':decide (s.1=k)=false:=decide_eq_false e;rw [e'];cases h1:klt s.1 k with
   |true=>
    have h2:klt k s.1=false:=by
     cases h2:klt k s.1 with
     |false=>rfl
     |true=>have:=qcy h1 h2;rw [qah] at this;cases this
    simp [List.filter_cons,h1,h2,vsz] at ih⊢;omega
   |false=>
    cases h2:klt k s.1 with
    |true=>
     simp [List.filter_cons,h1,h2,vsz] at ih⊢;omega
    |false=>exact absurd (qz9 h1 h2) e
theorem putL_le (c:List Ver) (v:Ver):(qfl c v).length≤c.length+1:=by
 unfold qfl;have h:∀d:List Ver,(d.filter λu=>decide (u.at_<v.at_)).length+(d.filter λu=>decide (v.at_<u.at_)).length≤d.length:=by
  intro d
  induction d with
  |nil=>simp
  |cons u d ih=>
   rw [List.filter_cons,List.filter_cons];by_cases h1:u.at_<v.at_
   ·have h2:¬v.at_<u.at_:=by omega
    simp [h1,h2] at ih⊢;omega
   ·by_cases h2:v.at_<u.at_
    ·simp [h1,h2] at ih⊢;omega
    ·simp [h1,h2] at ih⊢;omega
 have:=h c;simp;omega
theorem za3 (S:Stl) (k:ByteArray) (x:Ver):vsz (qjt S k x)≤vsz S+1:=by
 have h1:=qn5 k S;have h2:=putL_le (qbk S k) x;unfold qjt qj9;simp [vsz] at h1⊢;omega
theorem qub (a:Int):∀(wr:List (ByteArray×Ver)) (S:Stl),vsz (qcp a wr S)≤vsz S+wr.length
 | [],S=>by simp [qcp]
 |p::wr,S=>by
  have h1:=qub a wr (qjt S p.1 ⟨a,p.2.val,p.2.gone⟩);have h2:=za3 S p.1 ⟨a,p.2.val,p.2.gone⟩;unfold qcp at h1⊢;rw [List.foldl_cons,List.length_cons];omega
theorem kput_le {α:Type} (l:List (ByteArray×α)) (k:ByteArray) (x:α):(qj9 l k x).length≤l.length+1:=by
 have h:∀d:List (ByteArray×α),(d.filter λp=>klt p.1 k).length+(d.filter λp=>klt k p.1).length≤d.length:=by
  intro d
  induction d with
  |nil=>simp
  |cons u d ih=>
   rw [List.filter_cons,List.filter_cons];cases h1:klt u.1 k with
   |true=>
    have h2:klt k u.1=false:=by
     cases h2:klt k u.1 with
     |false=>rfl
     |true=>have:=qcy h1 h2;rw [qah] at this;cases this
    simp [h2] at ih⊢;omega
   |false=>
    cases h2:klt k u.1 with
    |true=>simp at ih⊢;omega
    |false=>simp at ih⊢;omega
 have:=h l;unfold qj9;simp;omega
theorem wsz_snoc (l:List (Int×Tx)) (x:Int×Tx):wsz (l++ [x])=wsz l+x.2.wr.length:=by simp [wsz]
theorem qvu (P:PM) (t:Tx):(P.one t).2.size≤P.size+t.wr.length:=by
 unfold PM.one;split
 ·exact Nat.le_add_right _ _
 ·simp [PM.size,wsz_snoc];omega
theorem qiy (P:PM) (n:Int):(P.drop n).size≤P.size:=by
 have h1:=qnk (λx=> !decide (x.1=n)) P.live
 have h2:=List.length_filter_le (λl=> !decide (l.owner=n)) P.L
 simp [PM.size,PM.drop,PM.del] at h1 h2⊢;omega
theorem qva {P:PM} (h:P.Ok) {n:Int} {t u:Tx} (hg:(n,t)∈P.live) (L':List Lk):({P.set n u with L:=L'}).size+P.L.length+t.wr.length=P.size+L'.length+u.wr.length:=by
 have:=za6 (u:=u) h.nums hg;simp [PM.size,PM.set] at this⊢;omega
theorem quf {P:PM} (h:P.Ok) {n:Int} {t:Tx} (hg:(n,t)∈P.live) (a:Int) (fr til:ByteArray) (s:Sn):(P.see n t a fr til s).2.size≤P.size+1:=by
 unfold PM.see;split
 ·have:=qiy P n;simp;omega
 ·have:=qva h hg (u:=⟨t.snap,⟨max t.sp.lo (a+1),t.sp.hi⟩,t.wr⟩) (P.L++ [⟨n,fr,til,s⟩]);simp at this⊢;omega
theorem qw3 (P:PM) (w:Int):(P.begin w).2.size≤P.size:=by
 unfold PM.begin;split
 ·exact Nat.le_refl _
 ·split
  ·exact Nat.le_refl _
  ·exact qvu _ _
theorem qoy (P:PM):P.snapshot.2.size≤P.size:=qvu _ _
theorem qz0 {P:PM} (h:P.Ok) (n:Int) (k:ByteArray):(P.read n k).2.size≤P.size+1:=by
 unfold PM.read;cases hg:P.get n with
 |none=>simp
 |some t=>
  have hm:=(qao h).1 hg;have hs:=λa s=>quf h hm a k k s
  simp only [];split
  ·simp
  ·split
   ·simp
   ·split
    ·simp
    ·split<;>exact hs _ _
theorem qz1 {P:PM} (h:P.Ok) (n:Int) (fr til:ByteArray) (many:Int):(P.scan n fr til many).2.size≤P.size+1:=by
 unfold PM.scan;cases hg:P.get n with
 |none=>simp
 |some t=>
  have hm:=(qao h).1 hg;have hs:=λa s=>quf h hm a fr til s
  simp only [];split
  ·simp
  ·split
   ·simp
   ·split
    ·simp
    ·split<;>exact hs _ _
theorem qxw {P:PM} (h:P.Ok) (n:Int) (k:ByteArray) (v:Ver):(P.write n k v).2.size≤P.size+1:=by
 unfold PM.write;cases hg:P.get n with
 |none=>simp
 |some t=>
  have hm:=(qao h).1 hg;simp only [];split
  ·simp
  ·split
   ·simp
   ·split
    ·simp
    ·have h1:=qva h hm (u:=⟨t.snap,t.sp,qj9 t.wr k v⟩) P.L;have h2:=kput_le t.wr k v;simp [PM.size,PM.set] at h1⊢;omega
theorem zaa (P:PM) (b:Int):(P.tick b).2.size≤P.size:=by
 unfold PM.tick;split<;>simp [PM.size]
theorem qwj (P:PM) (n:Int):(P.abort n).2.size≤P.size:=by
 unfold PM.abort;split
 ·simp
 ·exact qiy P n
theorem qs3 {P:PM} (h:P.Ok) (n:Int):(P.commit n).2.size≤P.size+1:=by
 cases hg:P.get n with
 |none=>simp [PM.commit,hg]
 |some t=>
  have hm:=(qao h).1 hg;cases hs:t.snap with
  |true=>rw [qem hg hs];have:=qiy P n;simp;omega
  |false=>
   rcases qbw h hg hs with⟨hp,_⟩|⟨a,hp,_⟩
   ·rw [qcm hg hp];have:=qiy P n;simp;omega
   ·rw [qda hg hs hp];have h1:=qjs h.nums hm;have h2:=qub a t.wr P.S;have h3:(qqk n a P.L).length≤P.L.length:=by
     unfold qqk;exact Nat.le_trans (List.length_filter_le _ _) (by simp)
    unfold qcp at h2;simp [PM.size,PM.del] at h1 h2⊢;unfold qcp;omega
theorem qr8 (t:Int):∀S:Stl,vsz (qen t S)≤vsz S
 | []=>Nat.le_refl _
 |s::S=>by
  have ih:=qr8 t S;have hc:(qer s.2 t).length≤s.2.length:=by
   unfold qer;split
   ·exact Nat.le_refl _
   ·split<;>simp
  unfold qen at ih⊢;rw [List.map_cons,List.filter_cons];split<;>simp [vsz,qw6] at ih⊢<;>omega
theorem qxe (P:PM) (t:Int):(P.purge t).2.size≤P.size:=by
 unfold PM.purge;split
 ·exact Nat.le_refl _
 ·have h1:=qr8 t P.S;have h2:(qkb t P.L).length≤P.L.length:=by
   unfold qkb;exact Nat.le_trans (List.length_filter_le _ _) (by simp)
  have h3:=List.length_filter_le (λa=> !decide (a≤t)) P.taken
  simp [PM.size] at h1 h2 h3⊢;omega
theorem qfk {P:PM} (h:P.Ok):P.S.length≤P.size:=by
 have hv:P.S.length≤vsz P.S:=by
  have:=h.st
  revert this
  generalize P.S=S;intro hs
  induction S with
  |nil=>simp
  |cons s S ih=>
   have h1:=ih λx hx=>hs x (by simp [hx])
   have h2:=(hs s (by simp)).2.1
   have:0<s.2.length:=List.length_pos_iff.2 h2;simp [vsz] at h1⊢;omega
 unfold PM.size;omega
theorem qlr {x:Nat}:∀{l:List Nat},x∈l→x≤l.sum
 | [],h=>by cases h
 |y::l,h=>by
  rw [List.sum_cons];rcases List.mem_cons.1 h with rfl|h
  ·omega
  ·have:=qlr h;omega
theorem qdt {P:PM} {s:ByteArray×List Ver} (hs:s∈P.S):s.2.length≤P.size:=by
 have:s.2.length≤vsz P.S:=by
  unfold vsz;exact qlr (List.mem_map.2 ⟨s,hs,rfl⟩)
 unfold PM.size;omega
theorem qw5 {P:PM} {x:Int×Tx} (hx:x∈P.live):x.2.wr.length≤P.size:=by
 have:x.2.wr.length≤wsz P.live:=by
  unfold wsz;exact qlr (List.mem_map.2 ⟨x,hx,rfl⟩)
 unfold PM.size;omega
theorem put_eq {S:Stl} (hk:KS S) {k:ByteArray} {x:Ver} {n:Nat} (hp:Pos S k n):qtk S k x n=qjt S k x:=by
 have hlo:(S.filter λp=>klt p.1 k)=S.take n:=qeo _ (λy hy=>by
  obtain⟨i,hi,rfl⟩:=List.getElem_of_mem hy;rw [List.getElem_take];simp at hi;exact hp.lo i (by omega) (by omega)) (λy hy=>by
  obtain⟨i,hi,rfl⟩:=List.getElem_of_mem hy;rw [List.getElem_drop];simp at hi
  exact hp.hi _ (by omega) (by omega))
 have hsp:∀(m:Nat),(∀j (h:j<S.length),j<m→klt k S[j].1=false)→(∀j (h:j<S.length),m≤j→klt k S[j].1=true)→(S.filter λp=>klt k p.1)=S.drop m:=λm h1 h2=>qhj _ (λy hy=>by
  obtain⟨i,hi,rfl⟩:=List.getElem_of_mem hy;rw [List.getElem_take];simp at hi;exact h1 i (by omega) (by omega)) (λy hy=>by
  obtain⟨i,hi,rfl⟩:=List.getElem_of_mem hy;rw [List.getElem_drop];simp at hi
  exact h2 _ (by omega) (by omega))
 have hlt:∀j (h:j<S.length),j<n→klt k S[j].1=false:=λj h hj=>by
  cases e:klt k S[j].1 with
  |false=>rfl
  |true=>have:=qcy (hp.lo j h hj) e;rw [qah] at this;cases this
 unfold qtk qjt qj9;by_cases hf:∃h:n<S.length,S[n].1=k
 ·obtain⟨hn,he⟩:=hf;have hg:qbk S k=S[n].2:=by
   unfold qbk;rw [(qav (α:=List Ver) hk (k:=k) (x:=S[n].2)).2 (by rw [←he];exact List.getElem_mem hn)]
   rfl
  rw [List.getElem?_eq_getElem hn];simp only [he,if_true]
  rw [hlo,hg,hsp (n+1) (λj h hj=>by
   by_cases e:j=n
   ·subst e;rw [he,qah]
   ·exact hlt j h (by omega)) (λj h hj=>by
   have:=List.pairwise_iff_getElem.1 hk n j hn h (by omega)
   rw [he] at this;exact this)]
  rw [List.set_eq_take_append_cons_drop,if_pos hn]
 ·have hne:∀j (h:j<S.length),S[j].1≠k:=λj h e=>by
   rcases Nat.lt_trichotomy j n with hj|hj|hj
   ·have:=hp.lo j h hj;rw [e,qah] at this;cases this
   ·subst hj;exact hf ⟨h,e⟩
   ·have hn:n<S.length:=by omega
    have h1:=List.pairwise_iff_getElem.1 hk n j hn h hj;rw [e] at h1;rw [hp.hi n hn (Nat.le_refl _)] at h1;cases h1
  have hg:qbk S k= []:=by
   unfold qbk
   rw [qbt.2 λp hpm=>by
    obtain⟨i,hi,rfl⟩:=List.getElem_of_mem hpm
    exact hne i hi]
   rfl
  rw [hlo,hg,hsp n hlt (λj h hj=>by
   cases e:klt k S[j].1 with
   |true=>rfl
   |false=>exact absurd (qfa (hp.hi j h hj) e) (hne j h))]
  cases hn:S[n]? with
  |none=>rfl
  |some s=>
   obtain⟨h1,h2⟩:=List.getElem?_eq_some_iff.1 hn;simp only [show¬s.1=k from h2▸hne n h1,if_false]
end Go.Sm
namespace Go.Sm
open Go
set_option maxRecDepth 100000
set_option maxHeartbeats 4000000
section
variable {E:Env} {σ:CSt}
theorem qby {ops:Array Oper} {a0:CAct} {Q:Out→CSt→Prop} {a:CAct} {dst:Option Tmp} {op:Op} {ty:TypeId} {pos:String} {after:Array Edge} {j:Nat} {want:Bool} {rest:List Oper} (hd:((ops[j]?).bind (·.dst)).isSome=true) (hs:qa4 ops j<a.sz):
  qt9 E ops Q a0 (⟨dst,op,ty,pos,after,some (j,want)⟩::rest) a σ=
   qgh (a.get (qa4 ops j)) want
    (qp5 E ops a0 a dst (qt9 E ops Q a0 rest) Q σ (cop E.P σ a.eval ⟨dst,op,ty,pos,after,some (j,want)⟩))
    (qt9 E ops Q a0 rest (a.put dst nope) σ):=by
 obtain⟨d,hd⟩:=Option.isSome_iff_exists.1 hd;have hdd:qa4 ops j=d:=by simp [qa4,hd]
 rw [hdd] at hs⊢;rw [qt9];simp only [qaz,hd,hs,if_true];unfold qgh;generalize a.get d=v;cases v with
 |bool b=>cases b<;>cases want<;>rfl
 |chan c=>cases c<;>rfl
 |_=>rfl
end
theorem qak {E:Env} {x:Ctx} {c:Code} {Q:Out→CSt→Prop} (I:Nat→CAct→CSt→Prop) (J:Out→CSt→Prop) (hstep:∀n a σ,I n a σ→W E (.code x c a) σ (kinv I n J)) (n:Nat) (a:CAct) (σ:CSt) (h:I n a σ) (hJ:∀o s,J o s→Q o s):W E (.code x (.loop c) a) σ Q:=
 W.weaken (qaj (Q:=J) I hstep n a σ h) hJ
theorem W_cond_t {E:Env} {x:Ctx} {c:Operand} {t e:Code} {a:CAct} {σ:CSt} {Q:Out→CSt→Prop} (h:a.eval c= .bool true):W E (.code x (.cond c t e) a) σ Q=W E (.code x t a) σ Q:=by simp [h]
theorem W_cond_f {E:Env} {x:Ctx} {c:Operand} {t e:Code} {a:CAct} {σ:CSt} {Q:Out→CSt→Prop} (h:a.eval c= .bool false):W E (.code x (.cond c t e) a) σ Q=W E (.code x e a) σ Q:=by simp [h]
theorem qt8 {E:Env} {t:Task} {σ:CSt} {Q:Out→CSt→Prop} (J:Out→CSt→Prop) (h1:W E t σ J) (h2:∀o s,J o s→Q o s):W E t σ Q:=W.weaken h1 h2
def hit (T:TypeId→Prop) (M:Nat→Prop) (o:Option CObj) (j:Nat):Prop:=(∃row e ro,o=some (.cells row e ro)∧T e)∨(∃es c,o=some (.map es c)∧M j)
def Ch (T:TypeId→Prop) (M F:Nat→Prop) (s s':CSt):Prop:=s.n≤s'.n∧∀j,j<s.n→¬(F j∧hit T M (s.get j) j)→s'.get j=s.get j
section
variable {T T':TypeId→Prop} {M M' F F':Nat→Prop} {s s0 s1 s2:CSt}
theorem Ch.refl (T:TypeId→Prop) (M F:Nat→Prop) (s:CSt):Ch T M F s s:=⟨Nat.le_refl _,λ_ _ _=>rfl⟩
theorem Ch.n (h:Ch T M F s0 s1):s0.n≤s1.n:=h.1
theorem Ch.trans (h:Ch T M F s0 s1) (k:Ch T M F s1 s2):Ch T M F s0 s2:=⟨Nat.le_trans h.1 k.1,λj hj hn=>by
 have e:=h.2 j hj hn
 rw [k.2 j (Nat.lt_of_lt_of_le hj h.1) (by rw [e];exact hn),e]⟩
theorem Ch.mono (h:Ch T M F s0 s1) (hT:∀e,T e→T' e) (hM:∀j,M j→M' j) (hF:∀j,F j→F' j):Ch T' M' F' s0 s1:=⟨h.1,λj hj hn=>h.2 j hj λ⟨h1,h2⟩=>hn ⟨hF j h1,by
 rcases h2 with⟨row,e,ro,h2,h3⟩|⟨es,c,h2,h3⟩
 ·exact .inl ⟨row,e,ro,h2,hT e h3⟩
 ·exact .inr ⟨es,c,h2,hM j h3⟩⟩⟩
theorem Grow.ch (h:Grow s0 s1):Ch T M F s0 s1:=⟨h.n,λj hj _=>h.old j hj⟩
theorem Ch.grow (h:Ch T M F s0 s1) (hF:∀j,F j→s0.n≤j):Grow s0 s1:=⟨h.1,λj hj=>h.2 j hj λ⟨h1,_⟩=>by have:=hF j h1;omega⟩
theorem Ch.new (h:Ch T M F s0 s1) {i:Nat} (hi:s0.n≤i) (o:CObj):Ch T M F s0 (s1.put i o):=⟨h.1,λj hj hn=>by rw [CSt.get_put,if_neg (by omega)];exact h.2 j hj hn⟩
theorem Ch.put (h:Ch T M F s0 s1) {i:Nat} {row:List Value} {e:TypeId} {ro:Bool} (hg:s1.get i=some (.cells row e ro)) (ht:T e) (hF:F i) (o:CObj):Ch T M F s0 (s1.put i o):=⟨h.1,λj hj hn=>by
 have hji:j≠i:=by
  rintro rfl;have e1:=h.2 j hj hn;exact hn ⟨hF, .inl ⟨row,e,ro,by rw [←e1];exact hg,ht⟩⟩
 rw [CSt.get_put,if_neg hji];exact h.2 j hj hn⟩
theorem Ch.putM (h:Ch T M F s0 s1) {i:Nat} {es:Array MapEntry} {c:Nat} (hg:s1.get i=some (.map es c)) (hM:M i) (hF:F i) (o:CObj):Ch T M F s0 (s1.put i o):=⟨h.1,λj hj hn=>by
 have hji:j≠i:=by
  rintro rfl;have e1:=h.2 j hj hn;exact hn ⟨hF, .inr ⟨es,c,by rw [←e1];exact hg,hM⟩⟩
 rw [CSt.get_put,if_neg hji];exact h.2 j hj hn⟩
theorem Ch.get (h:Ch T M F s0 s1) {i:Nat} {o:CObj} (hg:s0.get i=some o) (hi:i<s0.n) (hn:¬(F i∧hit T M (some o) i)):s1.get i=some o:=by
 rw [h.2 i hi (by rw [hg];exact hn)];exact hg
theorem zbi {row:List Value} {e:TypeId} {ro:Bool} {j:Nat}:hit T M (some (.cells row e ro)) j↔T e:=by
 constructor
 ·rintro(⟨_,_,_,h,h2⟩|⟨_,_,h,_⟩)
  ·cases h;exact h2
  ·cases h
 ·exact λh=> .inl ⟨_,_,_,rfl,h⟩
theorem zav {es:Array MapEntry} {c j:Nat}:hit T M (some (.map es c)) j↔M j:=by
 constructor
 ·rintro(⟨_,_,_,h,_⟩|⟨_,_,h,h2⟩)
  ·cases h
  ·exact h2
 ·exact λh=> .inr ⟨_,_,rfl,h⟩
theorem Ch.cell (h:Ch T M F s0 s1) {i:Nat} {row:List Value} {e:TypeId} {ro:Bool} (hg:s0.get i=some (.cells row e ro)) (hi:i<s0.n) (hn:F i→¬T e):s1.get i=some (.cells row e ro):=
 h.get hg hi λ⟨h1,h2⟩=>hn h1 (zbi.1 h2)
theorem Ch.map (h:Ch T M F s0 s1) {i:Nat} {es:Array MapEntry} {c:Nat} (hg:s0.get i=some (.map es c)) (hi:i<s0.n) (hn:F i→¬M i):s1.get i=some (.map es c):=
 h.get hg hi λ⟨h1,h2⟩=>hn h1 (zav.1 h2)
def inF (F:Nat→Prop) (v:Value):Prop:=∀j,qb1 v=some j→F j
theorem qob:inF F (.slice none 0 0):=λj h=>by cases h
theorem qd3.ch {v:Value} (h:qd3 v s0 s1) (hv:inF F v) (ht:∀j,qb1 v=some j→j<s0.n→∃row e ro,s0.get j=some (.cells row e ro)∧T e):Ch T M F s0 s1:=⟨h.1,λj hj hn=>h.2 j hj λe=>hn ⟨hv j e, .inl (ht j e hj)⟩⟩
theorem Sl.ch {α:Type} {e:TypeId} {sz:Nat} {enc:α→List Value} {v:Value} {l:List α} (h:Sl s0 e sz enc v l) (k:Ch T M F s0 s1) (hn:inF (λj=>F j→¬T e) v):Sl s1 e sz enc v l:=by
 rcases h with h|⟨i,off,cap,row,ro,h1,h2,h3,h4,h5,h6⟩
 ·exact .inl h
 ·exact .inr ⟨i,off,cap,row,ro,h1,k.cell h2 h3 (hn i (by rw [h1];rfl)),Nat.lt_of_lt_of_le h3 k.1,h4,h5,h6⟩
theorem Sl.chT {α:Type} {e:TypeId} {sz:Nat} {enc:α→List Value} {v:Value} {l:List α} (h:Sl s0 e sz enc v l) (k:Ch T M F s0 s1) (hn:¬T e):Sl s1 e sz enc v l:=h.ch k λ_ _ _=>hn
theorem qbj.ch {α:Type} {b:Nat} {e:TypeId} {enc:α→List Value} {v:Value} {l:List α} (h:qbj b s0 e enc v l) (k:Ch T M F s0 s1) (hn:inF (λj=>F j→¬T e) v):qbj b s1 e enc v l:=by
 rcases h with h|⟨i,cap,zs,h1,h2,h3,h4,h5,h6⟩
 ·exact .inl h
 ·exact .inr ⟨i,cap,zs,h1,h2,Nat.lt_of_lt_of_le h3 k.1,k.cell h4 h3 (hn i (by rw [h1];rfl)),h5,h6⟩
theorem qbj.chT {α:Type} {b:Nat} {e:TypeId} {enc:α→List Value} {v:Value} {l:List α} (h:qbj b s0 e enc v l) (k:Ch T M F s0 s1) (hn:¬T e):qbj b s1 e enc v l:=h.ch k λ_ _ _=>hn
theorem qbj.lt {α:Type} {b:Nat} {e:TypeId} {enc:α→List Value} {v:Value} {l:List α} (h:qbj b s e enc v l) {j:Nat} (hj:qb1 v=some j):b≤j∧j<s.n∧∃row,s.get j=some (.cells row e false):=by
 rcases h with⟨rfl,_⟩|⟨i,cap,zs,rfl,h2,h3,h4,_⟩
 ·cases hj
 ·cases hj;exact⟨h2,h3,_,h4⟩
theorem qbj.butV {α:Type} {b:Nat} {e:TypeId} {enc:α→List Value} {v:Value} {l:List α} (h:qbj b s0 e enc v l) (k:qd3 v s0 s1) (hF:inF F v) (ht:T e):Ch T M F s0 s1:=k.ch hF λj hj _=>by
 obtain⟨_,_,row,h1⟩:=h.lt hj;exact⟨row,e,false,h1,ht⟩
theorem MpG.ch {κ:Type} {key:κ→Value} {m:Nat} {L:MlG κ} (h:MpG key s0 m L) (hm:m<s0.n) (k:Ch T M F s0 s1) (hn:F m→¬M m):MpG key s1 m L:=by
 obtain⟨es,c,h1,h2⟩:=h;exact⟨es,c,k.map h1 hm hn,h2⟩
theorem MpG.isMap {κ:Type} {key:κ→Value} {m:Nat} {L:MlG κ} (h:MpG key s m L):∃es c,s.get m=some (.map es c):=by
 obtain⟨es,c,h1,_⟩:=h;exact⟨es,c,h1⟩
theorem Ch.putMp {κ:Type} {key:κ→Value} {m:Nat} {L:MlG κ} (h:Ch T M F s0 s1) (hg:MpG key s1 m L) (hM:M m) (hF:F m) (o:CObj):Ch T M F s0 (s1.put m o):=by
 obtain⟨es,c,h1,_⟩:=hg;exact h.putM h1 hM hF o
end
end Go.Sm
namespace Go.Sm
open Go Go.Proofs
set_option maxRecDepth 100000
set_option maxHeartbeats 4000000
theorem qxt (b:Nat) (l:List RV) (x:RV) (a:Nat) (ha:a≤l.length) (v:Value) (σ:CSt) (hb:b≤σ.n) (hown:qbj b σ 267 qb4 v l) (j:Nat) (hj:σ.get j=some (.cells (qb4 x) 267 false))
  (hji:∀i off n c,v= .slice (some ⟨i,off,none⟩) n c→i≠j) (hbig:l.length<2^40) (Q:Out→CSt→Prop)
  (h:∀(v':Value) (σ':CSt),Own b σ' 267 qb4 v' (l.take a++x::l.drop a)→(∀j,qb1 v'=some j→σ.n≤j)→qd3 v σ σ'→Fr (λt=>t=267) b σ σ'→Q (.ret v' false) σ'):
  W E1 (.fn 166 #[v, .int .i64 a, .slice (some ⟨j,0,none⟩) 1 1] none) σ Q:=by
 have hxl:(qb4 x).length=2:=rfl;rcases hown with⟨rfl,rfl⟩|⟨i,cap,zs,rfl,hbi,hin,hg,hzs,hcap⟩
 ·have ha0:a=0:=by simpa using ha
  subst ha0;rw [Int.natCast_zero,qj1 (E:=E1) (f:=166) (g:=qvl 267 2 40) rfl rfl (v:= .slice (some ⟨σ.n,0,none⟩) 1 qa1) (σ':=σ.alloc (.cells (qb4 x) 267 false)) (qw0 hj rfl rfl (by omega))]
  exact h _ _ (.inr ⟨σ.n,qa1,rfl,hb,by simp,by simp, .inl rfl⟩) (λj hj=>by cases hj;exact Nat.le_refl _) ((qd3.refl _ σ).alloc _) ((Fr.refl (λt=>t=267) b σ).alloc _)
 ·have hij:=hji i 0 _ _ rfl;have hrl:(l.flatMap qb4).length=l.length*2:=qa5 qb4 (λ_=>rfl) l
  have hck:qc9 (l.flatMap qb4)=true:=qdz (λ_=>rfl) l
  have hck2:qc9 (l.flatMap qb4++zs)=true:=by rw [qcb,hck,hzs];rfl
  have hrl2:(l.flatMap qb4++zs).length=l.length*2+zs.length:=by rw [List.length_append,hrl]
  rcases hcap with rfl|⟨rfl,rfl,rfl⟩
  ·have he:=qsi (enc:=qb4) (l:=l) (sz:=2) (λ_=>rfl) a ha x zs
   rw [qj1 (E:=E1) (f:=166) (g:=qvl 267 2 40) rfl rfl (v:= .slice (some ⟨σ.n,0,none⟩) (l.length+1) qa1) (σ':=(σ.put i .dead).alloc (.cells ((l.take a++x::l.drop a).flatMap qb4) 267 false)) (by
    rw [qik (sz:=2) hg hj rfl rfl (by omega) (by omega) hij (by omega) (qpf hck2 _) (by omega) (by omega) hbig,if_pos rfl,←he]
    rfl)]
   refine h _ _ (.inr ⟨σ.n,qa1, ?_,hb,by simp,by simp, .inl rfl⟩) (λj hj=>by cases hj;exact Nat.le_refl _) (((qd3.refl _ σ).putV rfl _).alloc _) (((Fr.refl (λt=>t=267) b σ).put hbi hg rfl _).alloc _)
   have:(l.take a++x::l.drop a).length=l.length+1:=by simp;omega
   rw [this]
  ·have ha0:a=0:=by simpa using ha
   subst ha0
   rw [Int.natCast_zero,qj1 (E:=E1) (f:=166) (g:=qvl 267 2 40) rfl rfl (v:= .slice (some ⟨σ.n,0,none⟩) 1 qa1) (σ':=σ.alloc (.cells (qb4 x) 267 false)) (by
    have hg':σ.get i=some (.cells [] 267 false):=hg
    exact(qik (sz:=2) (n:=0) hg' hj rfl rfl (by omega) (by omega) hij (by simp) (by simp) (by omega) (by omega) (by omega)).trans ((if_neg (by simp [qa1])).trans (if_pos ⟨rfl,rfl⟩)))]
   exact h _ _ (.inr ⟨σ.n,qa1,rfl,hb,by simp,by simp, .inl rfl⟩) (λj hj=>by cases hj;exact Nat.le_refl _) ((qd3.refl _ σ).alloc _) ((Fr.refl (λt=>t=267) b σ).alloc _)
def Rws (σ:CSt) (R:List RV) (S:Stl):Prop:=R.length=S.length∧∀j (h:j<R.length) (h':j<S.length),R[j].key=S[j].1∧Sl σ 40 3 qad (.slice R[j].p R[j].n R[j].c) S[j].2
theorem Rws.fr {T:TypeId→Prop} {b:Nat} {σ σ':CSt} {R:List RV} {S:Stl} (h:Rws σ R S) (ht:¬T 40) (hg:Fr T b σ σ'):Rws σ' R S:=⟨h.1,λj h1 h2=>⟨(h.2 j h1 h2).1,(h.2 j h1 h2).2.fr ht hg⟩⟩
theorem Rws.grow {σ σ':CSt} {R:List RV} {S:Stl} (h:Rws σ R S) (hg:Grow σ σ'):Rws σ' R S:=⟨h.1,λj h1 h2=>⟨(h.2 j h1 h2).1,(h.2 j h1 h2).2.grow hg⟩⟩
theorem Rws.ins {σ:CSt} {R:List RV} {S:Stl} (h:Rws σ R S) (a:Nat) (ha:a≤R.length) (r:RV) (s:ByteArray×List Ver) (hr:r.key=s.1) (hs:Sl σ 40 3 qad (.slice r.p r.n r.c) s.2):Rws σ (R.take a++r::R.drop a) (S.take a++s::S.drop a):=by
 have hl:=h.1;refine⟨by simp;omega,λj h1 h2=> ?_⟩
 rcases Nat.lt_trichotomy j a with hj|hj|hj
 ·have e1:(R.take a++r::R.drop a)[j]=R[j]:=by rw [List.getElem_append_left (by simp;omega),List.getElem_take]
  have e2:(S.take a++s::S.drop a)[j]=S[j]:=by rw [List.getElem_append_left (by simp;omega),List.getElem_take]
  rw [e1,e2];exact h.2 j _ _
 ·subst hj;have e1:(R.take j++r::R.drop j)[j]=r:=by rw [List.getElem_append_right (by simp;omega)];simp [Nat.min_eq_left ha]
  have e2:(S.take j++s::S.drop j)[j]=s:=by rw [List.getElem_append_right (by simp;omega)];simp [Nat.min_eq_left (hl▸ha)]
  rw [e1,e2];exact⟨hr,hs⟩
 ·obtain⟨k,rfl⟩:∃k,j=a+1+k:=⟨j-(a+1),by omega⟩
  have hk:a+k<R.length:=by simp at h1;omega
  have e1:(R.take a++r::R.drop a)[a+1+k]=R[a+k]:=by
   rw [List.getElem_append_right (by simp;omega)]
   have:a+1+k-(R.take a).length=k+1:=by simp;omega
   simp only [this,List.getElem_cons_succ,List.getElem_drop]
  have e2:(S.take a++s::S.drop a)[a+1+k]=S[a+k]:=by
   rw [List.getElem_append_right (by simp;omega)]
   have:a+1+k-(S.take a).length=k+1:=by simp;omega
   simp only [this,List.getElem_cons_succ,List.getElem_drop]
  rw [e1,e2];exact h.2 (a+k) _ _
theorem Rws.set {σ:CSt} {R:List RV} {S:Stl} (h:Rws σ R S) (a:Nat) (r:RV) (s:ByteArray×List Ver) (hr:r.key=s.1) (hs:Sl σ 40 3 qad (.slice r.p r.n r.c) s.2):Rws σ (R.set a r) (S.set a s):=by
 have hl:=h.1;refine⟨by simp;omega,λj h1 h2=> ?_⟩
 by_cases e:a=j
 ·subst e;simp;exact⟨hr,hs⟩
 ·rw [List.getElem_set_ne e,List.getElem_set_ne e];exact h.2 j _ _
def St (F:Nat→Prop) (σ:CSt) (i:Nat) (S:Stl):Prop:=∃vr R,F i∧inF F vr∧i<σ.n∧σ.get i=some (.cells [vr] 269 false)∧qbj 0 σ 267 qb4 vr R∧Rws σ R S
def stT (t:TypeId):Prop:=t=267∨t=269
def noM:Nat→Prop:=λ_=>False
theorem St.grow {F:Nat→Prop} {σ σ':CSt} {i:Nat} {S:Stl} (h:St F σ i S) (hg:Grow σ σ'):St F σ' i S:=by
 obtain⟨vr,R,h0,h1,h2,h3,h4,h5⟩:=h;exact⟨vr,R,h0,h1,Nat.lt_of_lt_of_le h2 hg.n,hg.get h3 h2,h4.grow hg,h5.grow hg⟩
theorem Rws.ch {T:TypeId→Prop} {M F:Nat→Prop} {σ σ':CSt} {R:List RV} {S:Stl} (h:Rws σ R S) (ht:¬T 40) (hg:Ch T M F σ σ'):Rws σ' R S:=⟨h.1,λj h1 h2=>⟨(h.2 j h1 h2).1,(h.2 j h1 h2).2.chT hg ht⟩⟩
theorem St.ch {T:TypeId→Prop} {M F F':Nat→Prop} {σ σ':CSt} {i:Nat} {S:Stl} (h:St F σ i S) (hg:Ch T M F' σ σ') (ht:¬T 40) (hn:∀j,F j→F' j→¬T 267∧¬T 269):St F σ' i S:=by
 obtain⟨vr,R,h0,h1,h2,h3,h4,h5⟩:=h;exact⟨vr,R,h0,h1,Nat.lt_of_lt_of_le h2 hg.1,hg.cell h3 h2 λa=>(hn _ h0 a).2,h4.ch hg λj hj a=>(hn _ (h1 j hj) a).1,h5.ch ht hg⟩
theorem St.mono {F F':Nat→Prop} {σ:CSt} {i:Nat} {S:Stl} (h:St F σ i S) (hF:∀j,j<σ.n→F j→F' j):St F' σ i S:=by
 obtain⟨vr,R,h0,h1,h2,h3,h4,h5⟩:=h;exact⟨vr,R,hF _ h2 h0,λj hj=>hF j (h4.lt hj).2.1 (h1 j hj),h2,h3,h4,h5⟩
theorem new_spec (F:Nat→Prop) (σ:CSt) (hF:∀j,σ.n≤j→F j) (Q:Out→CSt→Prop) (h:∀σ',St F σ' σ.n []→Grow σ σ'→Q (.ret (.pointer (some ⟨σ.n,0,none⟩)) false) σ'):W E1 (.fn 97 #[] none) σ Q:=by
 rw [qap (fn:=Tryz.f97) Tryz.func97 rfl rfl rfl];have:=h (σ.alloc (.cells [.slice none 0 0] 269 false)) ⟨.slice none 0 0, [],hF _ (Nat.le_refl _),qob,by simp,by simp,qbj.nil,rfl,λj h=>by simp at h⟩ ((Grow.refl σ).alloc _)
 simpa [qa0] using this
theorem qjn (S:Stl) (hk:KS S) (R:List RV) (v:Value) (k:ByteArray) (σ:CSt) (hr:Rws σ R S) (hsl:Sl σ 267 2 qb4 v R) (hbig:S.length<2^40) (Q:Out→CSt→Prop)
  (h:∀(n:Nat) (σ':CSt),Pos S k n→Grow σ σ'→Q (.ret (.tuple #[.int .i64 n, .bool (decide (∃h:n<S.length,S[n].1=k))]) false) σ'):
  W E1 (.fn 164 #[v, .string k, .func (.func 165) #[] #[]] none) σ Q:=by
 have hl:=hr.1;have hlt:∀r:RV,ordR k r<0↔klt r.key k=true:=by
  intro r;unfold ordR;cases h1:klt r.key k
  ·by_cases h2:r.key=k<;>simp [h2]
  ·simp
 have hz:∀r:RV,ordR k r=0↔r.key=k:=by
  intro r;unfold ordR;cases h1:klt r.key k
  ·by_cases h2:r.key=k<;>simp [h2]
  ·simp;intro e;rw [e,qah] at h1;cases h1
 refine za5 R v _ rfl (ordR k) σ hsl (by omega) (λx σ Q h=>qsl k x σ Q h) (λj m hj hm hjm ho=> ?_) Q λn σ' hc hg=> ?_
 ·rw [hlt] at ho⊢;have h1:=(hr.2 j hj (by omega)).1
  have h2:=(hr.2 m hm (by omega)).1
  have h3:=List.pairwise_iff_getElem.1 hk j m (by omega) (by omega) hjm
  rw [h2] at ho;rw [h1];exact qcy h3 ho
 ·have hp:Pos S k n:=by
   refine⟨by have:=hc.le;omega,λj hj hjn=> ?_,λj hj hjn=> ?_⟩
   ·have:=hc.lo j (by omega) hjn
    rw [hlt,(hr.2 j (by omega) hj).1] at this
    exact this
   ·have:=hc.hi j (by omega) hjn
    cases h1:klt S[j].1 k
    ·rfl
    ·have h2:=(hlt R[j]).2 (by rw [(hr.2 j (by omega) hj).1];exact h1)
     omega
  have:=h n σ' hp hg;have e:(∃h:n<R.length,ordR k R[n]=0)↔∃h:n<S.length,S[n].1=k:=
   ⟨λ⟨h1,h2⟩=>⟨by omega,by rw [←(hr.2 n h1 (by omega)).1];exact(hz _).1 h2⟩,λ⟨h1,h2⟩=>⟨by omega,(hz _).2 (by rw [(hr.2 n (by omega) h1).1];exact h2)⟩⟩
  rw [decide_eq_decide.2 e];exact this
attribute [local simp] qiu qch qb5 qhs qat qn9 qu9
theorem qy8 (σ:CSt) (j:Nat) (new:List Value) (hj:j<σ.n) (hg:σ.get j=some (.cells new 40 false)) (hl:new.length=3) (hc:qc9 new=true):
  W E0 (.fn 229 #[.slice none 0 0, .int .i64 0, .slice (some ⟨j,0,none⟩) 1 1] none) σ (qe9 σ none 0 40 new 1):=by
 rw [qap (fn:=Tryz.f229) Tryz.func229 rfl rfl rfl];have ht:new.take 3=new:=List.take_of_length_le (by omega)
 simp [qa0,hg,hl,hc,ht,qhk,qau];refine⟨σ.n,new,qa1,rfl,by simp,by simp, .inl ⟨by omega,rfl⟩,λy hy _=> ?_⟩
 simp;omega
theorem qrv (σ:CSt) (i j:Nat) (row new:List Value) (hi:i<σ.n) (hj:j<σ.n) (hij:i≠j) (hgi:σ.get i=some (.cells row 40 false)) (hg:σ.get j=some (.cells new 40 false)) (hl:new.length=3) (hc:qc9 new=true):
  W E0 (.fn 229 #[.slice (some ⟨i,0,none⟩) 0 0, .int .i64 0, .slice (some ⟨j,0,none⟩) 1 1] none) σ (qe9 σ none 0 40 new 1):=by
 rw [qap (fn:=Tryz.f229) Tryz.func229 rfl rfl rfl];have ht:new.take 3=new:=List.take_of_length_le (by omega)
 have h0:(0:Nat)≠qa1:=by simp [qa1]
 have h1:0<qa1:=by simp [qa1]
 simp [qa0,hg,hgi,hl,hc,ht,qhk,qau,qcu,h0,h1];refine⟨σ.n,new,qa1,rfl,by simp,by simp, .inl ⟨by omega,rfl⟩,λy hy _=> ?_⟩
 simp;omega
theorem qy7 (σ:CSt) (i j n k:Nat) (row new:List Value) (hi:i<σ.n) (hj:j<σ.n) (hij:i≠j) (hgi:σ.get i=some (.cells row 40 false)) (hg:σ.get j=some (.cells new 40 false)) (hl:new.length=3) (hc:qc9 new=true)
  (hn:n*3≤row.length) (hk:k*3≤row.length) (hb:(n+1)*32≤140737488355328) (hnk:n≤k) (hko:k<qa1):
  W E0 (.fn 229 #[.slice (some ⟨i,0,none⟩) n k, .int .i64 n, .slice (some ⟨j,0,none⟩) 1 1] none) σ (qe9 σ (some i) k 40 (qbh 3 n n row new) (n+1)):=by
 rw [qap (fn:=Tryz.f229) Tryz.func229 rfl rfl rfl];have ht:new.take 3=new:=List.take_of_length_le (by omega)
 have h0:k≠qa1:=by omega
 by_cases hr:n+1≤k
 ·have hst:st row (n*3) new=some (wr row (n*3) new):=qm9 (by omega)
  simp [qa0,hg,hgi,hl,hc,ht,qhk,qau,qcu,h0,hko,hnk,hr,hst,-qi0];refine⟨i,wr row (n*3) new,k,rfl,by simp,insA hl (by omega), .inr ⟨rfl,rfl,hr⟩,λy hy hne=> ?_⟩
  rw [CSt.get_put,if_neg];rintro rfl;exact hne rfl
 ·simp [qa0,hg,hgi,hl,hc,ht,qhk,qau,qcu,h0,hko,hnk,hr,hn,hb];refine⟨σ.n,_,qa1,rfl,by simp,insB hl hn, .inl ⟨Nat.le_refl _,rfl⟩,λy hy hne=> ?_⟩
  rw [CSt.get_alloc,if_neg (by omega)]
theorem qy9 (σ:CSt) (i j n a k:Nat) (row new:List Value) (hi:i<σ.n) (hj:j<σ.n) (hij:i≠j) (hgi:σ.get i=some (.cells row 40 false)) (hg:σ.get j=some (.cells new 40 false)) (hl:new.length=3) (hc:qc9 new=true)
  (hn:n*3≤row.length) (hk:k*3≤row.length) (hrc:qc9 (row.take (n*3))=true) (ha:a<n) (hb:(n+1)*32≤140737488355328) (hn40:n<2^40) (hnk:n≤k) (hko:k<qa1):
  W E0 (.fn 229 #[.slice (some ⟨i,0,none⟩) n k, .int .i64 a, .slice (some ⟨j,0,none⟩) 1 1] none) σ (qe9 σ (some i) k 40 (qbh 3 a n row new) (n+1)):=by
 rw [qap (fn:=Tryz.f229) Tryz.func229 rfl rfl rfl];have ht:new.take 3=new:=List.take_of_length_le (by omega)
 have h0:k≠qa1:=by omega
 have hle:a≤n:=by omega
 have hne:a≠n:=by omega
 have hw1:=qb7 n (by omega)
 have hw2:=qb7 a (by omega)
 have hlt:¬k<n∧¬(a:Int)=n:=by omega
 have hnew:ld new 0 3=some new:=by simp [ld,hl,ht]
 have hp1:(0:Int)≤(n:Int)+1∧(0:Int)≤(a:Int)+1∧((n:Int)+1).toNat=n+1∧((a:Int)+1).toNat=a+1:=by omega
 by_cases hr:n+1≤k
 ·have hI:¬((k:Int)<n+1):=by omega
  have hq:a≤k∧a+1≤k∧a≤n+1:=by omega
  simp [qa0,hg,hgi,hl,hc,ht,qhk,qau,qcu,h0,hko,hnk,hr,hle,hne,hlt.2,hw1,hw2,hp1,hI,hq,ha,-qi0];rw [qum (E:=E0) (v:= .bool false)]
  rotate_left
  ·simp only [qui,E0X,extE];exact qqo (Ne.symm hij) hg hgi (by omega)
  have hmin:min (n+1-a) (n-a)=n-a:=by omega
  have hmul:(n-a)*3=n*3-a*3:=by omega
  have hmin2:min 1 (n+1-a)=1:=by omega
  obtain⟨seg,hseg⟩:∃seg,seg=(row.drop (a*3)).take (n*3-a*3):=⟨_,rfl⟩
  have hs1:ld row (a*3) ((n-a)*3)=some seg:=by rw [hmul,hseg];simp;omega
  have hs2:seg.length=(n-a)*3:=by rw [hseg];simp;omega
  have hs3:qc9 seg=true:=by rw [hseg,←List.drop_take];exact qgf hrc _
  have hs4:st row ((a+1)*3) seg=some (wr row (a*3+3) seg):=by rw [show(a+1)*3=a*3+3 by omega];exact qm9 (by omega)
  have hs5:(wr row (a*3+3) seg).length=row.length:=qf7 (by omega)
  have hs6:st (wr row (a*3+3) seg) (a*3) new=some (wr (wr row (a*3+3) seg) (a*3) new):=qm9 (by omega)
  have hq2:¬(k=a)∧¬(k=a+1)∧¬(n-a=0):=by omega
  simp only [Bool.not_false,qa0];simp [qa0,hg,hgi,hl,hc,ht];refine qba (by kernel_rfl) ?_
  simp [qa6,qa0,hg,hgi,hl,hc,ht,qhk,qau,qcu,qo6,qj8,h0,hko,hnk,hr,hle,hne,hlt.2,hw1,hw2,hp1,hI,hq,hq2,ha,hmin,hmin2,hs1,hs2,hs3,hs4,hs6,hnew,Ne.symm hij,-qi0,-qwt];refine⟨i,_,k,rfl,by simp;rfl, ?_, .inr ⟨rfl,rfl,hr⟩,λy hy hne=> ?_⟩
  ·rw [hseg];exact insD hl ha (by omega)
  ·have:y≠i:=by rintro rfl;exact hne rfl
   simp [this]
 ·have hkn:k=n:=by omega
  subst hkn;have hI:((k:Int)<k+1):=by omega
  have hw3:IntKind.i64.wrap ((k:Int)+1-a)=((k+1-a:Nat):Int):=by rw [IntWalk.i64_in _ (by omega)];omega
  have hz1:((k+1-a:Nat):Int)*32≤140737488355328:=by omega
  have hz2:¬(k+1-a=0):=by omega
  have hz3:¬(a+(k+1-a)≤k):=by omega
  have hz4:a+(k+1-a)=k+1:=by omega
  have hz5:a*3≤row.length:=by omega
  have hq:a≤k+1∧a+1≤k+1:=by omega
  have hmin:min (k+1-a) (k-a)=k-a∧min (k-a) (k-a)=k-a:=by omega
  have hmin2:min 1 (k+1-a)=1:=by omega
  have hjn:¬(j=σ.n)∧¬(i=σ.n):=by omega
  obtain⟨z,hz⟩:∃z,z=(List.replicate (k+1-a) [Value.int IntKind.u64 0,Value.string ⟨#[]⟩,Value.bool false]).flatten:=⟨_,rfl⟩
  have hzl:z.length=(k+1-a)*3:=by rw [hz];simp
  have hzc:qc9 z=true:=by rw [hz];exact qho _ _ rfl
  have hta:(row.take (a*3)).length=a*3:=by simp;omega
  have hrw:(row.take (a*3)++z).length=k*3+3:=by rw [List.length_append,hta,hzl];omega
  have hc1:st (row.take (a*3)++z) (a*3) new=some (wr (row.take (a*3)++z) (a*3) new):=qm9 (by omega)
  have hc2:(wr (row.take (a*3)++z) (a*3) new).length=k*3+3:=by rw [qf7 (by omega)];exact hrw
  obtain⟨seg,hseg⟩:∃seg,seg=(row.drop (a*3)).take (k*3-a*3):=⟨_,rfl⟩
  have hs1:ld row (a*3) ((k-a)*3)=some seg:=by rw [show(k-a)*3=k*3-a*3 by omega,hseg];simp;omega
  have hs2:seg.length=(k-a)*3:=by rw [hseg];simp;omega
  have hs3:qc9 seg=true:=by rw [hseg,←List.drop_take];exact qgf hrc _
  have hs4:st (wr (row.take (a*3)++z) (a*3) new) ((a+1)*3) seg=some (wr (wr (row.take (a*3)++z) (a*3) new) (a*3+3) seg):=by rw [show(a+1)*3=a*3+3 by omega];exact qm9 (by omega)
  have hq2:¬(k=a)∧¬(k-a=0)∧k+1-(a+1)=k-a:=by omega
  have hld:ld row 0 (a*3)=some (row.take (a*3)):=by simp [ld];omega
  simp [qa0,hg,hgi,hl,hc,ht,qhk,qau,qcu,h0,hko,hnk,hr,hn,hb,hle,hne,hlt.2,hw1,hw2,hw3,hz1,hz2,hz3,hz4,hz5,hp1,hI,hq,hq2,ha,appNK,qdn,qo6,qj8,←hz,hzl,hzc,hc1,hnew,hmin,hmin2,hjn,hld,-qi0,-qwt,-List.append_assoc];refine qba (by kernel_rfl) ?_
  simp [qa6,qa0,hg,hgi,hl,hc,ht,qcu,h0,hko,hnk,hr,hn,hb,hle,hne,hlt.2,hw1,hw2,hp1,hI,hq,hq2,ha,qdn,qo6,qj8,hzl,hzc,hs1,hs2,hs3,hs4,hmin,hmin2,hjn,-qi0,-qwt,-List.append_assoc];refine⟨σ.n,_,qa1,rfl,by simp;rfl, ?_, .inl ⟨Nat.le_refl _,rfl⟩,λy hy hne=> ?_⟩
  ·rw [hseg];exact insC hl ha hn (by omega)
  ·have:y≠σ.n:=by omega
   simp [this]
theorem zbc:InsW E0 229 40 3 32 where
 nil:=fun σ j new hj hg hl hc _=>qy8 σ j new hj hg hl hc
 zero:=fun σ i j row new hi hj hij hgi hg hl hc _=>qrv σ i j row new hi hj hij hgi hg hl hc
 some_:=fun σ i j n a k row new hi hj hij hgi hg hl hc hn hk hrc ha hb hn40 hnk hko=>by
  by_cases he:a=n
  ·subst he;exact qy7 σ i j a k row new hi hj hij hgi hg hl hc hn hk (by omega) hnk hko
  ·exact qy9 σ i j n a k row new hi hj hij hgi hg hl hc hn hk hrc (by omega) (by omega) hn40 hnk hko
attribute [local simp] qiu qch qb5 qhs qat qn9 qu9
theorem qwy (σ:CSt) (j:Nat) (new:List Value) (hj:j<σ.n) (hg:σ.get j=some (.cells new 267 false)) (hl:new.length=2) (hc:qc9 new=true):
  W E0 (.fn 166 #[.slice none 0 0, .int .i64 0, .slice (some ⟨j,0,none⟩) 1 1] none) σ (qe9 σ none 0 267 new 1):=by
 rw [qap (fn:=Tryz.f166) Tryz.func166 rfl rfl rfl];have ht:new.take 2=new:=List.take_of_length_le (by omega)
 simp [qa0,hg,hl,hc,ht,qhk,qau];refine⟨σ.n,new,qa1,rfl,by simp,by simp, .inl ⟨by omega,rfl⟩,λy hy _=> ?_⟩
 simp;omega
theorem qte (σ:CSt) (i j:Nat) (row new:List Value) (hi:i<σ.n) (hj:j<σ.n) (hij:i≠j) (hgi:σ.get i=some (.cells row 267 false)) (hg:σ.get j=some (.cells new 267 false)) (hl:new.length=2) (hc:qc9 new=true):
  W E0 (.fn 166 #[.slice (some ⟨i,0,none⟩) 0 0, .int .i64 0, .slice (some ⟨j,0,none⟩) 1 1] none) σ (qe9 σ none 0 267 new 1):=by
 rw [qap (fn:=Tryz.f166) Tryz.func166 rfl rfl rfl];have ht:new.take 2=new:=List.take_of_length_le (by omega)
 have h0:(0:Nat)≠qa1:=by simp [qa1]
 have h1:0<qa1:=by simp [qa1]
 simp [qa0,hg,hgi,hl,hc,ht,qhk,qau,qcu,h0,h1];refine⟨σ.n,new,qa1,rfl,by simp,by simp, .inl ⟨by omega,rfl⟩,λy hy _=> ?_⟩
 simp;omega
theorem qxa (σ:CSt) (i j n k:Nat) (row new:List Value) (hi:i<σ.n) (hj:j<σ.n) (hij:i≠j) (hgi:σ.get i=some (.cells row 267 false)) (hg:σ.get j=some (.cells new 267 false)) (hl:new.length=2) (hc:qc9 new=true)
  (hn:n*2≤row.length) (hk:k*2≤row.length) (hb:(n+1)*40≤140737488355328) (hnk:n≤k) (hko:k<qa1):
  W E0 (.fn 166 #[.slice (some ⟨i,0,none⟩) n k, .int .i64 n, .slice (some ⟨j,0,none⟩) 1 1] none) σ (qe9 σ (some i) k 267 (qbh 2 n n row new) (n+1)):=by
 rw [qap (fn:=Tryz.f166) Tryz.func166 rfl rfl rfl];have ht:new.take 2=new:=List.take_of_length_le (by omega)
 have h0:k≠qa1:=by omega
 by_cases hr:n+1≤k
 ·have hst:st row (n*2) new=some (wr row (n*2) new):=qm9 (by omega)
  simp [qa0,hg,hgi,hl,hc,ht,qhk,qau,qcu,h0,hko,hnk,hr,hst,-qi0];refine⟨i,wr row (n*2) new,k,rfl,by simp,insA hl (by omega), .inr ⟨rfl,rfl,hr⟩,λy hy hne=> ?_⟩
  rw [CSt.get_put,if_neg];rintro rfl;exact hne rfl
 ·simp [qa0,hg,hgi,hl,hc,ht,qhk,qau,qcu,h0,hko,hnk,hr,hn,hb];refine⟨σ.n,_,qa1,rfl,by simp,insB hl hn, .inl ⟨Nat.le_refl _,rfl⟩,λy hy hne=> ?_⟩
  rw [CSt.get_alloc,if_neg (by omega)]
theorem qy3 (σ:CSt) (i j n a k:Nat) (row new:List Value) (hi:i<σ.n) (hj:j<σ.n) (hij:i≠j) (hgi:σ.get i=some (.cells row 267 false)) (hg:σ.get j=some (.cells new 267 false)) (hl:new.length=2) (hc:qc9 new=true)
  (hn:n*2≤row.length) (hk:k*2≤row.length) (hrc:qc9 (row.take (n*2))=true) (ha:a<n) (hb:(n+1)*40≤140737488355328) (hn40:n<2^40) (hnk:n≤k) (hko:k<qa1):
  W E0 (.fn 166 #[.slice (some ⟨i,0,none⟩) n k, .int .i64 a, .slice (some ⟨j,0,none⟩) 1 1] none) σ (qe9 σ (some i) k 267 (qbh 2 a n row new) (n+1)):=by
 rw [qap (fn:=Tryz.f166) Tryz.func166 rfl rfl rfl];have ht:new.take 2=new:=List.take_of_length_le (by omega)
 have h0:k≠qa1:=by omega
 have hle:a≤n:=by omega
 have hne:a≠n:=by omega
 have hw1:=qb7 n (by omega)
 have hw2:=qb7 a (by omega)
 have hlt:¬k<n∧¬(a:Int)=n:=by omega
 have hnew:ld new 0 2=some new:=by simp [ld,hl,ht]
 have hp1:(0:Int)≤(n:Int)+1∧(0:Int)≤(a:Int)+1∧((n:Int)+1).toNat=n+1∧((a:Int)+1).toNat=a+1:=by omega
 by_cases hr:n+1≤k
 ·have hI:¬((k:Int)<n+1):=by omega
  have hq:a≤k∧a+1≤k∧a≤n+1:=by omega
  simp [qa0,hg,hgi,hl,hc,ht,qhk,qau,qcu,h0,hko,hnk,hr,hle,hne,hlt.2,hw1,hw2,hp1,hI,hq,ha,-qi0];rw [qum (E:=E0) (v:= .bool false)]
  rotate_left
  ·simp only [qui,E0X,extE];exact qqo (Ne.symm hij) hg hgi (by omega)
  have hmin:min (n+1-a) (n-a)=n-a:=by omega
  have hmul:(n-a)*2=n*2-a*2:=by omega
  have hmin2:min 1 (n+1-a)=1:=by omega
  obtain⟨seg,hseg⟩:∃seg,seg=(row.drop (a*2)).take (n*2-a*2):=⟨_,rfl⟩
  have hs1:ld row (a*2) ((n-a)*2)=some seg:=by rw [hmul,hseg];simp;omega
  have hs2:seg.length=(n-a)*2:=by rw [hseg];simp;omega
  have hs3:qc9 seg=true:=by rw [hseg,←List.drop_take];exact qgf hrc _
  have hs4:st row ((a+1)*2) seg=some (wr row (a*2+2) seg):=by rw [show(a+1)*2=a*2+2 by omega];exact qm9 (by omega)
  have hs5:(wr row (a*2+2) seg).length=row.length:=qf7 (by omega)
  have hs6:st (wr row (a*2+2) seg) (a*2) new=some (wr (wr row (a*2+2) seg) (a*2) new):=qm9 (by omega)
  have hq2:¬(k=a)∧¬(k=a+1)∧¬(n-a=0):=by omega
  simp only [Bool.not_false,qa0];simp [qa0,hg,hgi,hl,hc,ht];refine qba (by kernel_rfl) ?_
  simp [qa6,qa0,hg,hgi,hl,hc,ht,qhk,qau,qcu,qo6,qj8,h0,hko,hnk,hr,hle,hne,hlt.2,hw1,hw2,hp1,hI,hq,hq2,ha,hmin,hmin2,hs1,hs2,hs3,hs4,hs6,hnew,Ne.symm hij,-qi0,-qwt];refine⟨i,_,k,rfl,by simp;rfl, ?_, .inr ⟨rfl,rfl,hr⟩,λy hy hne=> ?_⟩
  ·rw [hseg];exact insD hl ha (by omega)
  ·have:y≠i:=by rintro rfl;exact hne rfl
   simp [this]
 ·have hkn:k=n:=by omega
  subst hkn;have hI:((k:Int)<k+1):=by omega
  have hw3:IntKind.i64.wrap ((k:Int)+1-a)=((k+1-a:Nat):Int):=by rw [IntWalk.i64_in _ (by omega)];omega
  have hz1:((k+1-a:Nat):Int)*40≤140737488355328:=by omega
  have hz2:¬(k+1-a=0):=by omega
  have hz3:¬(a+(k+1-a)≤k):=by omega
  have hz4:a+(k+1-a)=k+1:=by omega
  have hz5:a*2≤row.length:=by omega
  have hq:a≤k+1∧a+1≤k+1:=by omega
  have hmin:min (k+1-a) (k-a)=k-a∧min (k-a) (k-a)=k-a:=by omega
  have hmin2:min 1 (k+1-a)=1:=by omega
  have hjn:¬(j=σ.n)∧¬(i=σ.n):=by omega
  obtain⟨z,hz⟩:∃z,z=(List.replicate (k+1-a) [Value.string ⟨#[]⟩,Value.slice none 0 0]).flatten:=⟨_,rfl⟩
  have hzl:z.length=(k+1-a)*2:=by rw [hz];simp
  have hzc:qc9 z=true:=by rw [hz];exact qho _ _ rfl
  have hta:(row.take (a*2)).length=a*2:=by simp;omega
  have hrw:(row.take (a*2)++z).length=k*2+2:=by rw [List.length_append,hta,hzl];omega
  have hc1:st (row.take (a*2)++z) (a*2) new=some (wr (row.take (a*2)++z) (a*2) new):=qm9 (by omega)
  have hc2:(wr (row.take (a*2)++z) (a*2) new).length=k*2+2:=by rw [qf7 (by omega)];exact hrw
  obtain⟨seg,hseg⟩:∃seg,seg=(row.drop (a*2)).take (k*2-a*2):=⟨_,rfl⟩
  have hs1:ld row (a*2) ((k-a)*2)=some seg:=by rw [show(k-a)*2=k*2-a*2 by omega,hseg];simp;omega
  have hs2:seg.length=(k-a)*2:=by rw [hseg];simp;omega
  have hs3:qc9 seg=true:=by rw [hseg,←List.drop_take];exact qgf hrc _
  have hs4:st (wr (row.take (a*2)++z) (a*2) new) ((a+1)*2) seg=some (wr (wr (row.take (a*2)++z) (a*2) new) (a*2+2) seg):=by rw [show(a+1)*2=a*2+2 by omega];exact qm9 (by omega)
  have hq2:¬(k=a)∧¬(k-a=0)∧k+1-(a+1)=k-a:=by omega
  have hld:ld row 0 (a*2)=some (row.take (a*2)):=by simp [ld];omega
  simp [qa0,hg,hgi,hl,hc,ht,qhk,qau,qcu,h0,hko,hnk,hr,hn,hb,hle,hne,hlt.2,hw1,hw2,hw3,hz1,hz2,hz3,hz4,hz5,hp1,hI,hq,hq2,ha,appNK,qdn,qo6,qj8,←hz,hzl,hzc,hc1,hnew,hmin,hmin2,hjn,hld,-qi0,-qwt,-List.append_assoc];refine qba (by kernel_rfl) ?_
  simp [qa6,qa0,hg,hgi,hl,hc,ht,qcu,h0,hko,hnk,hr,hn,hb,hle,hne,hlt.2,hw1,hw2,hp1,hI,hq,hq2,ha,qdn,qo6,qj8,hzl,hzc,hs1,hs2,hs3,hs4,hmin,hmin2,hjn,-qi0,-qwt,-List.append_assoc];refine⟨σ.n,_,qa1,rfl,by simp;rfl, ?_, .inl ⟨Nat.le_refl _,rfl⟩,λy hy hne=> ?_⟩
  ·rw [hseg];exact insC hl ha hn (by omega)
  ·have:y≠σ.n:=by omega
   simp [this]
theorem qzn:InsW E0 166 267 2 40 where
 nil:=fun σ j new hj hg hl hc _=>qwy σ j new hj hg hl hc
 zero:=fun σ i j row new hi hj hij hgi hg hl hc _=>qte σ i j row new hi hj hij hgi hg hl hc
 some_:=fun σ i j n a k row new hi hj hij hgi hg hl hc hn hk hrc ha hb hn40 hnk hko=>by
  by_cases he:a=n
  ·subst he;exact qxa σ i j a k row new hi hj hij hgi hg hl hc hn hk (by omega) hnk hko
  ·exact qy3 σ i j n a k row new hi hj hij hgi hg hl hc hn hk hrc (by omega) (by omega) hn40 hnk hko
end Go.Sm
namespace Go.Sm
open Go Go.Proofs
def quj:Out→CSt→Bool:=λo _=>match o with| .ret (.bool true) false=>true|_=>false
def st0:CSt:={h:=((Tr.nil:Tr CObj).set 0 (.cells [.int .u64 1, .int .u64 0] 0 true)),n:=256}
set_option maxRecDepth 1000000
theorem aw16:runB EV 120000 (.fn 16 #[] none) st0 quj=true:=by kernel_rfl
theorem aw33:runB EV 80000 (.fn 33 #[] none) st0 quj=true:=by kernel_rfl
end Go.Sm
namespace Go.Proofs
open Go.Shelf
set_option maxRecDepth 100000
set_option maxHeartbeats 4000000
def Tryz.lays105_ren:Go.Shelf.Ren:=⟨fun|105=>19|212=>68|99=>69|165=>70|166=>71|170=>72|169=>73|263=>145|264=>146|206=>147|240=>148|241=>149|276=>215|277=>216|n=>n,fun|9=>9|3=>3|4=>4|20=>20|0=>0|46=>145|109=>146|5=>5|72=>151|76=>155|51=>238|146=>239|53=>22|148=>241|70=>149|37=>37|75=>154|127=>243|164=>312|80=>157|n=>n,fun|n=>n⟩
theorem Tryz.lays105:Go.Proofs.Lays.n105 Tryz.prog Tryz.lays105_ren:={
 mixed:=by kernel_rfl
 f99:=Tryz.func69.trans (congrArg some (by kernel_rfl))
 f105:=Tryz.func19.trans (congrArg some (by kernel_rfl))
 f165:=Tryz.func70.trans (congrArg some (by kernel_rfl))
 f166:=Tryz.func71.trans (congrArg some (by kernel_rfl))
 f169:=Tryz.func73.trans (congrArg some (by kernel_rfl))
 f170:=Tryz.func72.trans (congrArg some (by kernel_rfl))
 f206:=Tryz.func147.trans (congrArg some (by kernel_rfl))
 f212:=Tryz.func68.trans (congrArg some (by kernel_rfl))
 f240:=Tryz.func148.trans (congrArg some (by kernel_rfl))
 f241:=Tryz.func149.trans (congrArg some (by kernel_rfl))
 f263:=Tryz.func145.trans (congrArg some (by kernel_rfl))
 f264:=Tryz.func146.trans (congrArg some (by kernel_rfl))
 f276:=Tryz.func215.trans (congrArg some (by kernel_rfl))
 f277:=Tryz.func216.trans (congrArg some (by kernel_rfl))
 t0:=Tryz.underlying0
 a0:=Tryz.isAgg0
 z0:=Tryz.sizeOf0
 v0:=Tryz.zeroValue0
 t3:=Tryz.underlying3
 a3:=Tryz.isAgg3
 z3:=Tryz.sizeOf3
 v3:=Tryz.zeroValue3
 t4:=Tryz.underlying4
 a4:=Tryz.isAgg4
 z4:=Tryz.sizeOf4
 v4:=Tryz.zeroValue4
 t5:=Tryz.underlying5
 a5:=Tryz.isAgg5
 z5:=Tryz.sizeOf5
 v5:=Tryz.zeroValue5
 t9:=Tryz.underlying9
 a9:=Tryz.isAgg9
 z9:=Tryz.sizeOf9
 v9:=Tryz.zeroValue9
 t20:=Tryz.underlying20
 a20:=Tryz.isAgg20
 z20:=Tryz.sizeOf20
 v20:=Tryz.zeroValue20
 t37:=Tryz.underlying37
 a37:=Tryz.isAgg37
 z37:=Tryz.sizeOf37
 v37:=Tryz.zeroValue37
 t46:=Tryz.underlying145
 a46:=Tryz.isAgg145
 z46:=Tryz.sizeOf145
 v46:=Tryz.zeroValue145
 t51:=Tryz.underlying238
 a51:=Tryz.isAgg238
 z51:=Tryz.sizeOf238
 v51:=Tryz.zeroValue238
 t53:=Tryz.underlying22
 a53:=Tryz.isAgg22
 z53:=Tryz.sizeOf22
 v53:=Tryz.zeroValue22
 t70:=Tryz.underlying149
 a70:=Tryz.isAgg149
 z70:=Tryz.sizeOf149
 v70:=Tryz.zeroValue149
 t72:=Tryz.underlying151
 a72:=Tryz.isAgg151
 z72:=Tryz.sizeOf151
 v72:=Tryz.zeroValue151
 t75:=Tryz.underlying154
 a75:=Tryz.isAgg154
 z75:=Tryz.sizeOf154
 v75:=Tryz.zeroValue154
 t76:=Tryz.underlying155
 a76:=Tryz.isAgg155
 z76:=Tryz.sizeOf155
 v76:=Tryz.zeroValue155
 t109:=Tryz.underlying146
 a109:=Tryz.isAgg146
 z109:=Tryz.sizeOf146
 v109:=Tryz.zeroValue146
 t127:=Tryz.underlying243
 a127:=Tryz.isAgg243
 z127:=Tryz.sizeOf243
 v127:=Tryz.zeroValue243
 t146:=Tryz.underlying239
 a146:=Tryz.isAgg239
 z146:=Tryz.sizeOf239
 v146:=Tryz.zeroValue239
 t148:=Tryz.underlying241
 a148:=Tryz.isAgg241
 z148:=Tryz.sizeOf241
 v148:=Tryz.zeroValue241
 t164:=Tryz.underlying312
 a164:=Tryz.isAgg312
 z164:=Tryz.sizeOf312
 v164:=Tryz.zeroValue312}
theorem Tryz.Builder_Extra_105:Builder.Extra Tryz.prog Tryz.lays105_ren:={
 sizeBuilder:=by kernel_rfl
 liesBuilder:=by kernel_rfl
 t5:=Tryz.underlying5
 a5:=Tryz.isAgg5
 z5:=Tryz.sizeOf5
 v5:=Tryz.zeroValue5
 infoByte:=by kernel_rfl
 cellsByte:=by kernel_rfl
 sizeByte:=by kernel_rfl
 neB5:=by decide}
open Go.RowKit Go.Lib in
theorem Tryz.strings_Repeat (s:ByteArray) (c:Nat) (w:World) (hc:c≤9223372036854775807) (hlen:s.size*c≤140737488355328):
  Calls Tryz.prog 19 #[.string s, .int .i64 c] w λe w'=>e= .returned (.string ⟨(Lib.repeatL s.data.toList c).toArray⟩)∧Below w.heap.size w w':=Any.strings_Repeat Tryz.lays105 Tryz.Builder_Extra_105 s c w hc hlen
end Go.Proofs
namespace Go.Sm
open Go Go.Proofs
set_option maxRecDepth 100000
set_option maxHeartbeats 4000000
theorem good_all:(Tryz.prog.funcs.toList.all λfn=> !(fn.name== "runtime.NumGoroutine"))=true:=by kernel_rfl
theorem qx7:Tryz.prog.follows .mixedOrders=true:=by kernel_rfl
theorem good:Good Tryz.prog:=by
 refine⟨λf fn h _=> ?_,qx7⟩
 have:=List.all_eq_true.1 good_all fn (by rw [Array.mem_toList_iff];exact Array.mem_of_getElem? h)
 simpa using this
def isU8 (P:Program) (e:TypeId):Bool:=match P.underlying e with|some (.int .u8)=>true|_=>false
theorem not_u8 {P:Program} {e:TypeId} (h:isU8 P e=false):P.underlying e≠some (.int .u8):=by
 intro hh;unfold isU8 at h;rw [hh] at h;cases h
theorem qmr {E:Env} (hP:E.P=Tryz.prog) (hx:E.ext=extE):qmj E:=by
 intro g args σ v h ρ w args' hR ha;rw [hx] at h;rw [hP] at hR⊢;unfold extE at h;split at h
 ·exact qvq (tS:=265) (tR:=4) (size:=2) Tryz.func227 (by kernel_rfl) (by kernel_rfl) (by kernel_rfl) (by kernel_rfl) (by kernel_rfl) (λw=>by kernel_rfl) (not_u8 (by kernel_rfl)) h hR ha
 ·exact qvq (tS:=103) (tR:=4) (size:=3) Tryz.func262 (by kernel_rfl) (by kernel_rfl) (by kernel_rfl) (by kernel_rfl) (by kernel_rfl) (λw=>by kernel_rfl) (not_u8 (by kernel_rfl)) h hR ha
 ·cases h
theorem gam0:qnu E0:=by
 intro f g h;cases h
theorem gamV:qnu EV:=by
 intro f g h args σ v σ' hg Q hq
 change gamI f=some g at h
 unfold gamI at h;split at h
 ·cases h;exact qp3 (E:=E0) good (qmr rfl rfl) gam0 (by exact⟨_,Tryz.func166,rfl⟩) (by kernel_rfl) (by decide) qzn hg hq
 ·cases h;exact qp3 (E:=E0) good (qmr rfl rfl) gam0 (by exact⟨_,Tryz.func229,rfl⟩) (by kernel_rfl) (by decide) zbc hg hq
 ·cases h
theorem base0:Base st0:=by
 refine⟨rfl,λi o h=> ?_⟩
 simp only [st0,CSt.get,Tr.get_set] at h;split at h
 ·cases h;rename_i hi;subst hi;exact⟨by decide,_,_,rfl,by simp⟩
 ·simp [Tr.get_nil] at h
theorem ext0 {σ:CSt} (h:gnone σ):Ext st0 σ:=by
 intro i o ho;simp only [st0,CSt.get,Tr.get_set] at ho;split at ho
 ·rename_i hi;subst hi;cases ho;exact h
 ·simp [Tr.get_nil] at ho
theorem aw_ok {f:FuncId} {n:Nat} (h:runB EV n (.fn f #[] none) st0 quj=true) {args:Array Value} {σ σ':CSt} {v:Value} (hg:qn3 args σ=some (v,σ')) {Q:Out→CSt→Prop} (hq:Q (.ret v false) σ'):qfe Tryz.prog f args none σ Q:=by
 unfold qn3 at hg;split at hg
 ·rename_i hc;cases hg;obtain⟨rfl,hn⟩:=hc;refine base_fn (E:=EV) good (qmr rfl rfl) gamV base0 ((runB_W _ h).weaken λo s ho=> ?_) (by simp) rfl (ext0 hn) hq
  unfold quj at ho;split at ho
  ·rfl
  ·cases ho
 ·cases hg
theorem qyl (l:List UInt8):∀n,Go.Lib.repeatL l n=(List.replicate n l).flatten
 |0=>rfl
 |n+1=>by rw [Go.Lib.repeatL,qyl l n,List.replicate_succ,List.flatten_cons]
theorem rep_ok {args:Array Value} {σ σ':CSt} {v:Value} (hg:repG args σ=some (v,σ')) {Q:Out→CSt→Prop} (hq:Q (.ret v false) σ'):qfe Tryz.prog 19 args none σ Q:=by
 unfold repG at hg;split at hg
 ·rename_i s c;split at hg
  ·rename_i hc;cases hg;obtain⟨n,rfl⟩:∃n:Nat,c=n:=⟨c.toNat,by omega⟩
   refine qqc (v:= .string (repS s n)) ⟨_,Tryz.func19,rfl⟩ (by simp [qae]) (by simp [qae]) (λw=> ?_) (by simpa using hq)
   have h:=Tryz.strings_Repeat s n w (by omega) (by have:=hc.2.2;simp only [Int.toNat_natCast] at this;omega)
   rw [qyl] at h;exact h
  ·cases hg
 ·cases hg
end Go.Sm
namespace Go.Sm
open Go
set_option maxRecDepth 100000
set_option maxHeartbeats 4000000
section
variable {P:Program} {σ:CSt} {ev:Operand→Value} {dst:Option Tmp} {ty:TypeId} {pos:String} {after:Array Edge} {g:Option (Nat×Bool)}
variable {t:TypeId} {x y:Operand} {k k':IntKind} {a b:Int} {s u:ByteArray}
theorem u64_rng (n:Int):0≤IntKind.u64.wrap n∧IntKind.u64.wrap n<2^64:=by
 have h:IntKind.u64.wrap n=n %2^64:=by simp [IntKind.wrap,IntKind.bits,IntKind.signed]
 rw [h];omega
def idxS (fl:OpR) (ok:Bool) (σ:CSt):Value→Value→OpR
 | .string s, .int _ n=>if ok=true∧0≤n then(match s[n.toNat]? with|some b=> .val (.int .u8 b.toNat) σ|none=>fl) else fl
 |_,_=>fl
def qza (fl:OpR) (σ:CSt):Value→Value→OpR
 | .int k a, .int _ b=> .val (.int k (if b<a then b else a)) σ
 |_,_=>fl
def maxK (fl:OpR) (σ:CSt):Value→Value→OpR
 | .int k a, .int _ b=> .val (.int k (if a<b then b else a)) σ
 |_,_=>fl
@[simp] theorem callOp_min {ts:Array TypeId}:qbs P σ ev ⟨dst, .call ⟨.builtin .min, #[x,y],ts⟩,ty,pos,after,g⟩ ⟨.builtin .min, #[x,y],ts⟩=qza (qbc P σ ev ⟨dst, .call ⟨.builtin .min, #[x,y],ts⟩,ty,pos,after,g⟩) σ (ev x) (ev y):=by
 unfold qza;split
 ·rename_i k a k' b hx hy;show qbc P σ ev _=_
  unfold qbc;have ho:(⟨.builtin .min, #[x,y],ts⟩:Call).operands= #[x,y]:=by simp [Call.operands]
  simp [Op.operands,ho,hx,hy,Sm.flat,qae,execOp,qac,resolve,invoke,builtin,Builtin.min_,Builtin.min2]
 ·rfl
@[simp] theorem callOp_max {ts:Array TypeId}:qbs P σ ev ⟨dst, .call ⟨.builtin .max, #[x,y],ts⟩,ty,pos,after,g⟩ ⟨.builtin .max, #[x,y],ts⟩=maxK (qbc P σ ev ⟨dst, .call ⟨.builtin .max, #[x,y],ts⟩,ty,pos,after,g⟩) σ (ev x) (ev y):=by
 unfold maxK;split
 ·rename_i k a k' b hx hy;show qbc P σ ev _=_
  unfold qbc;have ho:(⟨.builtin .max, #[x,y],ts⟩:Call).operands= #[x,y]:=by simp [Call.operands]
  simp [Op.operands,ho,hx,hy,Sm.flat,qae,execOp,qac,resolve,invoke,builtin,Builtin.max_,Builtin.max2]
 ·rfl
end
end Go.Sm
namespace Go.Sm
open Go Go.Proofs
set_option maxRecDepth 100000
set_option maxHeartbeats 4000000
def encS (s:Sn):List Value:= [.int .u64 s.lo, .int .u64 s.hi]
theorem lenS (s:Sn):(encS s).length=2:=rfl
theorem cokS (s:Sn):qc9 (encS s)=true:=rfl
theorem qds (s:Sn) (σ:CSt) (Q:Out→CSt→Prop) (h:∀σ',Grow σ σ'→Q (.ret (.bool (!full s)) false) σ'):W E1 (.fn 189 #[.agg (encS s).toArray] none) σ Q:=by
 rw [qap (fn:=Tryz.f189) Tryz.func189 rfl rfl rfl];have:=h _ ((Grow.refl σ).alloc (.cells (encS s) 97 false));by_cases e:s.lo≤s.hi
 ·have e2:¬s.hi<s.lo:=by omega
  simpa [qa0,encS,full,e,e2] using this
 ·have e2:s.hi<s.lo:=by omega
  simpa [qa0,encS,full,e,e2] using this
theorem qar {σ σ':CSt} (h:gnone σ) (hz:0<σ.n) (g:Grow σ σ'):gnone σ':=g.get h hz
theorem glim:0<qb8:=by decide
theorem qjq (s:Sn) (σ:CSt) (hn:gnone σ) (hz:0<σ.n) (Q:Out→CSt→Prop) (h:∀σ',Grow σ σ'→Q (.ret (.agg (encS (qd4 s)).toArray) false) σ'):W E1 (.fn 241 #[.agg (encS s).toArray] none) σ Q:=by
 rw [qap (fn:=Tryz.f241) Tryz.func241 rfl rfl rfl];have g1:Grow σ ((σ.alloc (.cells (encS s) 97 false)).alloc (.cells [.int .u64 0, .int .u64 0] 97 false)):=((Grow.refl σ).alloc _).alloc _;have hc1:((σ.alloc (.cells (encS s) 97 false)).alloc (.cells [.int .u64 0, .int .u64 0] 97 false)).get σ.n=some (.cells (encS s) 97 false):=by simp
 have hc2:((σ.alloc (.cells (encS s) 97 false)).alloc (.cells [.int .u64 0, .int .u64 0] 97 false)).get (σ.n+1)=some (.cells [.int .u64 0, .int .u64 0] 97 false):=by simp
 have hn1:((σ.alloc (.cells (encS s) 97 false)).alloc (.cells [.int .u64 0, .int .u64 0] 97 false)).n=σ.n+2:=by simp
 simp only [encS] at hn1 g1 hc1 hc2;simp [qa0,encS];generalize (σ.alloc (.cells [.int .u64 s.lo, .int .u64 s.hi] 97 false)).alloc (.cells [.int .u64 0, .int .u64 0] 97 false)=σ1 at g1 hc1 hc2 hn1⊢;have hemp:=qds s σ1;simp only [encS] at hemp;refine hemp _ fun σ2 g2=> ?_
 have hc12:=g2.get hc1 (by omega)
 have hc22:=g2.get hc2 (by omega)
 have hn2:=qar (qar hn hz g1) (by omega) g2
 have gn2:=g2.n;unfold gnone at hn2;by_cases e:s.lo≤s.hi
 ·have hne:¬σ.n=σ.n+1:=by omega
  have g3:Grow σ (σ2.put (σ.n+1) (.cells (encS s) 97 false)):=(g1.trans g2).put (by omega) _
  have:=h _ g3;simpa [qa0,full,qd4,encS,e,hc12,hc22] using this
 ·have g3:Grow σ (σ2.put (σ.n+1) (.cells (encS qgu) 97 false)):=(g1.trans g2).put (by omega) _
  have:=h _ g3;simpa [qa0,full,qd4,encS,qgu,e,hc12,hc22,hn2,glim] using this
theorem qn1 (s:Sn) (hs:s.ok) (u:Int) (hu0:0≤u) (hu:u<18446744073709551616) (σ:CSt) (hn:gnone σ) (hz:0<σ.n) (Q:Out→CSt→Prop) (h:∀σ',Grow σ σ'→Q (.ret (.agg (encS (qc7 s u)).toArray) false) σ'):W E1 (.fn 195 #[.agg (encS s).toArray, .int .u64 u] none) σ Q:=by
 rw [qap (fn:=Tryz.f195) Tryz.func195 rfl rfl rfl];have g1:Grow σ ((σ.alloc (.cells (encS s) 97 false)).alloc (.cells [.int .u64 0, .int .u64 0] 97 false)):=((Grow.refl σ).alloc _).alloc _;have hc1:((σ.alloc (.cells (encS s) 97 false)).alloc (.cells [.int .u64 0, .int .u64 0] 97 false)).get σ.n=some (.cells (encS s) 97 false):=by simp
 have hc2:((σ.alloc (.cells (encS s) 97 false)).alloc (.cells [.int .u64 0, .int .u64 0] 97 false)).get (σ.n+1)=some (.cells [.int .u64 0, .int .u64 0] 97 false):=by simp
 have hn1:((σ.alloc (.cells (encS s) 97 false)).alloc (.cells [.int .u64 0, .int .u64 0] 97 false)).n=σ.n+2:=by simp
 simp only [encS] at hn1 g1 hc1 hc2;by_cases e:u≤s.lo
 ·have hn2:=qar hn hz g1;unfold gnone at hn2;have g3:Grow σ (((σ.alloc (.cells (encS s) 97 false)).alloc (.cells [.int .u64 0, .int .u64 0] 97 false)).put (σ.n+1) (.cells (encS qgu) 97 false)):=by simp only [encS];exact g1.put (by omega) _
  have:=h _ g3;simp only [encS] at this hn2;simp [qa0,encS,e];generalize (σ.alloc (.cells [.int .u64 s.lo, .int .u64 s.hi] 97 false)).alloc (.cells [.int .u64 0, .int .u64 0] 97 false)=σ1 at this g1 hc1 hc2 hn1 hn2⊢;simpa [qa0,qc7,encS,qgu,e,hc1,hc2,hn2,glim] using this
 ·have e':s.lo<u:=by omega
  have hw:IntKind.u64.wrap (u-1)=u-1:=IntWalk.u64_in _ (by have:=hs.1.1;omega)
  simp [qa0,encS,e];generalize (σ.alloc (.cells [.int .u64 s.lo, .int .u64 s.hi] 97 false)).alloc (.cells [.int .u64 0, .int .u64 0] 97 false)=σ1 at g1 hc1 hc2 hn1⊢;have hmin:(if u-1<s.hi then u-1 else s.hi)=min s.hi (u-1):=by split<;>omega
  have hp:=qjq ⟨s.lo,min s.hi (u-1)⟩ σ1 (qar hn hz g1) (by omega)
  simp only [encS] at hp;simp [qa0,qza,encS,e,hc1,hc2,hw,hmin];refine hp _ fun σ2 g2=> ?_
  have hc22:=g2.get hc2 (by omega)
  have gn2:=g2.n;have g3:Grow σ (σ2.put (σ.n+1) (.cells (encS (qc7 s u)) 97 false)):=(g1.trans g2).put (by omega) _
  have:=h _ g3;have hb:qc7 s u=qd4 ⟨s.lo,min s.hi (u-1)⟩:=by unfold qc7;rw [if_neg e]
  rw [hb] at this;simpa [qa0,encS,hc22] using this
theorem qjp (s:Sn) (hs:s.ok) (u:Int) (hu0:0≤u) (hu:u<18446744073709551616) (σ:CSt) (hn:gnone σ) (hz:0<σ.n) (Q:Out→CSt→Prop) (h:∀σ',Grow σ σ'→Q (.ret (.agg (encS (qbi s u)).toArray) false) σ'):W E1 (.fn 197 #[.agg (encS s).toArray, .int .u64 u] none) σ Q:=by
 rw [qap (fn:=Tryz.f197) Tryz.func197 rfl rfl rfl];have g1:Grow σ ((σ.alloc (.cells (encS s) 97 false)).alloc (.cells [.int .u64 0, .int .u64 0] 97 false)):=((Grow.refl σ).alloc _).alloc _;have hc1:((σ.alloc (.cells (encS s) 97 false)).alloc (.cells [.int .u64 0, .int .u64 0] 97 false)).get σ.n=some (.cells (encS s) 97 false):=by simp
 have hc2:((σ.alloc (.cells (encS s) 97 false)).alloc (.cells [.int .u64 0, .int .u64 0] 97 false)).get (σ.n+1)=some (.cells [.int .u64 0, .int .u64 0] 97 false):=by simp
 have hn1:((σ.alloc (.cells (encS s) 97 false)).alloc (.cells [.int .u64 0, .int .u64 0] 97 false)).n=σ.n+2:=by simp
 simp only [encS] at hn1 g1 hc1 hc2;by_cases e:s.hi≤u
 ·have hn2:=qar hn hz g1;unfold gnone at hn2;have g3:Grow σ (((σ.alloc (.cells (encS s) 97 false)).alloc (.cells [.int .u64 0, .int .u64 0] 97 false)).put (σ.n+1) (.cells (encS qgu) 97 false)):=by simp only [encS];exact g1.put (by omega) _
  have:=h _ g3;simp only [encS] at this hn2;simp [qa0,encS,e];generalize (σ.alloc (.cells [.int .u64 s.lo, .int .u64 s.hi] 97 false)).alloc (.cells [.int .u64 0, .int .u64 0] 97 false)=σ1 at this g1 hc1 hc2 hn1 hn2⊢;simpa [qa0,qbi,encS,qgu,e,hc1,hc2,hn2,glim] using this
 ·have e':u<s.hi:=by omega
  have hw:IntKind.u64.wrap (u+1)=u+1:=IntWalk.u64_in _ (by have:=hs.2.2;omega)
  simp [qa0,encS,e];generalize (σ.alloc (.cells [.int .u64 s.lo, .int .u64 s.hi] 97 false)).alloc (.cells [.int .u64 0, .int .u64 0] 97 false)=σ1 at g1 hc1 hc2 hn1⊢;have hmin:(if s.lo<u+1 then u+1 else s.lo)=max s.lo (u+1):=by split<;>omega
  have hp:=qjq ⟨max s.lo (u+1),s.hi⟩ σ1 (qar hn hz g1) (by omega)
  simp only [encS] at hp;simp [qa0,maxK,encS,e,hc1,hc2,hw,hmin];refine hp _ fun σ2 g2=> ?_
  have hc22:=g2.get hc2 (by omega)
  have gn2:=g2.n;have g3:Grow σ (σ2.put (σ.n+1) (.cells (encS (qbi s u)) 97 false)):=(g1.trans g2).put (by omega) _
  have:=h _ g3;have hb:qbi s u=qd4 ⟨max s.lo (u+1),s.hi⟩:=by unfold qbi;rw [if_neg e]
  rw [hb] at this;simpa [qa0,encS,hc22] using this
theorem qms {σ:CSt} {o:CObj} {i:Nat} (h:i=σ.n):(σ.alloc o).get i=some o:=by rw [CSt.get_alloc,if_pos h]
theorem qn8 {σ:CSt} {o:CObj} {i:Nat} (h:i<σ.n):(σ.alloc o).get i=σ.get i:=by rw [CSt.get_alloc,if_neg (by omega)]
theorem qzp (s o:Sn) (hs:s.ok) (ho:o.ok) (σ:CSt) (hn:gnone σ) (hz:0<σ.n) (Q:Out→CSt→Prop) (h:∀σ',Grow σ σ'→Q (.ret (.tuple #[.agg (encS (qis s o)).toArray, .agg (encS (qdm s o)).toArray]) false) σ'):W E1 (.fn 193 #[.agg (encS s).toArray, .agg (encS o).toArray] none) σ Q:=by
 rw [qap (fn:=Tryz.f193) Tryz.func193 rfl rfl rfl];have g1:Grow σ ((((σ.alloc (.cells (encS s) 97 false)).alloc (.cells (encS o) 97 false)).alloc (.cells [.int .u64 0, .int .u64 0] 97 false)).alloc (.cells [.int .u64 0, .int .u64 0] 97 false)):=((((Grow.refl σ).alloc _).alloc _).alloc _).alloc _;have hc1:((((σ.alloc (.cells (encS s) 97 false)).alloc (.cells (encS o) 97 false)).alloc (.cells [.int .u64 0, .int .u64 0] 97 false)).alloc (.cells [.int .u64 0, .int .u64 0] 97 false)).get σ.n=some (.cells (encS s) 97 false):=by rw [qn8 (by simp only [CSt.n_alloc];omega),qn8 (by simp only [CSt.n_alloc];omega),qn8 (by simp only [CSt.n_alloc];omega),qms (by simp only [CSt.n_alloc])]
 have hc2:((((σ.alloc (.cells (encS s) 97 false)).alloc (.cells (encS o) 97 false)).alloc (.cells [.int .u64 0, .int .u64 0] 97 false)).alloc (.cells [.int .u64 0, .int .u64 0] 97 false)).get (σ.n+1)=some (.cells (encS o) 97 false):=by rw [qn8 (by simp only [CSt.n_alloc];omega),qn8 (by simp only [CSt.n_alloc];omega),qms (by simp only [CSt.n_alloc])]
 have hc3:((((σ.alloc (.cells (encS s) 97 false)).alloc (.cells (encS o) 97 false)).alloc (.cells [.int .u64 0, .int .u64 0] 97 false)).alloc (.cells [.int .u64 0, .int .u64 0] 97 false)).get (σ.n+2)=some (.cells [.int .u64 0, .int .u64 0] 97 false):=by rw [qn8 (by simp only [CSt.n_alloc];omega),qms (by simp only [CSt.n_alloc])]
 have hc4:((((σ.alloc (.cells (encS s) 97 false)).alloc (.cells (encS o) 97 false)).alloc (.cells [.int .u64 0, .int .u64 0] 97 false)).alloc (.cells [.int .u64 0, .int .u64 0] 97 false)).get (σ.n+3)=some (.cells [.int .u64 0, .int .u64 0] 97 false):=by rw [qms (by simp only [CSt.n_alloc])]
 have hn1:((((σ.alloc (.cells (encS s) 97 false)).alloc (.cells (encS o) 97 false)).alloc (.cells [.int .u64 0, .int .u64 0] 97 false)).alloc (.cells [.int .u64 0, .int .u64 0] 97 false)).n=σ.n+4:=by simp
 simp only [encS] at hn1 g1 hc1 hc2 hc3 hc4;simp [qa0,encS,Nat.add_assoc];generalize (((σ.alloc (.cells [.int .u64 s.lo, .int .u64 s.hi] 97 false)).alloc (.cells [.int .u64 o.lo, .int .u64 o.hi] 97 false)).alloc (.cells [.int .u64 0, .int .u64 0] 97 false)).alloc (.cells [.int .u64 0, .int .u64 0] 97 false)=σ1 at g1 hc1 hc2 hc3 hc4 hn1⊢;have hemp:=qds o σ1;simp only [encS] at hemp;refine hemp _ fun σ2 g2=> ?_
 have hc12:=g2.get hc1 (by omega)
 have hc22:=g2.get hc2 (by omega)
 have hc32:=g2.get hc3 (by omega)
 have hc42:=g2.get hc4 (by omega)
 have hn2:=qar (qar hn hz g1) (by omega) g2
 have gn2:=g2.n;have hz2:0<σ2.n:=by omega
 have g12:=g1.trans g2;have hnG:=hn2;unfold gnone at hnG;by_cases e:o.lo≤o.hi
 ·simp [qa0,full,e,hc12,hc22];refine qcv (l:= [0,1,2,4,5,6,3,7,8,9]) (b:= #[0,0,2,7,0,0,32,127,255,511]) (by kernel_rfl) (by kernel_rfl) (by kernel_rfl) ?_
  simp [qa7,qal,qab,qb9,qa3,qa9,Nat.add_assoc,hc12,hc22];have hb:=qn1 s hs o.lo ho.1.1 ho.1.2 σ2 hn2 hz2;simp only [encS] at hb;refine hb _ fun σ3 g3=> ?_
  have hc13:=g3.get hc12 (by omega)
  have hc23:=g3.get hc22 (by omega)
  have hc33:=g3.get hc32 (by omega)
  have hc43:=g3.get hc42 (by omega)
  have gn3:=g3.n;simp [qa7,qal,qab,qb9,qa3,qa9,Nat.add_assoc,hc13,hc23];have ha:=qjp s hs o.hi ho.2.1 ho.2.2 σ3 (qar hn2 hz2 g3) (by omega)
  simp only [encS] at ha;refine ha _ fun σ4 g4=> ?_
  have hc14:=g4.get hc13 (by omega)
  have hc24:=g4.get hc23 (by omega)
  have hc34:=g4.get hc33 (by omega)
  have hc44:=g4.get hc43 (by omega)
  have gn4:=g4.n;have hne:¬σ.n+2=σ.n+3:=by omega
  have hne2:¬σ.n+3=σ.n+2:=by omega
  have hfin:=h _ ((((g12.trans g3).trans g4).put (i:=σ.n+2) (by omega) (.cells (encS (qc7 s o.lo)) 97 false)).put (i:=σ.n+3) (by omega) (.cells (encS (qbi s o.hi)) 97 false))
  have e1:qis s o=qc7 s o.lo:=by unfold qis;rw [if_pos e]
  have e2:qdm s o=qbi s o.hi:=by unfold qdm;rw [if_pos e]
  rw [e1,e2] at hfin;simp only [encS] at hfin;simp [qa7,qa0,qal,qab,qb9,qa3,qa9,Nat.add_assoc,encS,hc14,hc24,hc34,hc44,hne,hne2];simpa [qa0,hc34,hc44,hne,hne2] using hfin
 ·simp [qa0,full,e,hc12,hc22];refine qcv (l:= [0,2,1,3,4]) (b:= #[0,1,0,3,15]) (by kernel_rfl) (by kernel_rfl) (by kernel_rfl) ?_
  simp [qa7,qal,qab,qb9,qa3,qa9,Nat.add_assoc,hc12,hc22,hnG,glim];have hp:=qjq s σ2 hn2 hz2;simp only [encS] at hp;refine hp _ fun σ3 g3=> ?_
  have hc33:=g3.get hc32 (by omega)
  have hc43:=g3.get hc42 (by omega)
  have hc13:=g3.get hc12 (by omega)
  have gn3:=g3.n;have hn3:=qar hn2 hz2 g3;unfold gnone at hn3;have hne:¬σ.n+2=σ.n+3:=by omega
  have hne2:¬σ.n+3=σ.n+2:=by omega
  have hfin:=h _ (((g12.trans g3).put (i:=σ.n+2) (by omega) (.cells (encS (qd4 s)) 97 false)).put (i:=σ.n+3) (by omega) (.cells (encS qgu) 97 false))
  have e1:qis s o=qd4 s:=by unfold qis;rw [if_neg e]
  have e2:qdm s o=qgu:=by unfold qdm;rw [if_neg e]
  rw [e1,e2] at hfin;simp only [encS,qgu] at hfin;simp [qa7,qa0,qal,qab,qb9,qa3,qa9,Nat.add_assoc,encS,hc13,hc33,hc43,hn3,glim,hne,hne2];simpa [qa0,hc33,hc43,hne,hne2] using hfin
theorem qi5 (s u:ByteArray):(klt s u||s.toList==u.toList)= !klt u s:=by
 cases h:klt s u with
 |true=>
  have:=bl_asymm h;unfold klt;rw [this];rfl
 |false=>
  by_cases e:s.toList=u.toList
  ·have e2:=qep e;subst e2;simp [qah]
  ·cases h2:klt u s with
   |true=>simp [e]
   |false=>exact absurd (qyy h h2) e
def qag (k:Lk):List Value:= [.int .i64 k.owner, .string k.frm, .string k.til, .int .u64 k.sp.lo, .int .u64 k.sp.hi]
theorem qe1 (k:Lk):(qag k).length=5:=rfl
theorem cokK (k:Lk):qc9 (qag k)=true:=rfl
def qqs (k:Lk):Bool:= !klt k.til k.frm&&full k.sp
theorem qxs (g:FuncId) (caps:Array Value) (hext:∀args s,qcr E1 (.func (.func g) #[] caps) args s=none) (p:Lk→Bool) (Ok:CSt→Prop) (hog:∀s s',Ok s→Grow s s'→Ok s') (l:List Lk) (v:Value) (σ:CSt) (hsl:Sl σ 99 5 qag v l) (hok:Ok σ)
  (hpred:∀x∈l,∀s Q,Ok s→(∀s',Grow s s'→Q (.ret (.bool (p x)) false) s')→W E1 (.fn g (#[.agg (qag x).toArray]++caps) none) s Q) (hbig:l.length<2^40) (Q:Out→CSt→Prop)
  (h:∀(r:Int) (σ':CSt),((r= -1∧∀x∈l,p x=false)∨∃k:Nat,r=k∧∃hk:k<l.length,p l[k]=true∧∀i (hi:i<l.length),i<k→p l[i]=false)→Grow σ σ'→Q (.ret (.int .i64 r) false) σ'):W E1 (.fn 260 #[v, .func (.func g) #[] caps] none) σ Q:=by
 rw [qap (fn:=Tryz.f260) Tryz.func260 rfl rfl rfl];obtain⟨pp,c,rfl⟩:=hsl.form;simp [qa0];refine qaj (λn a σ'=>∃tm j,a=⟨tm,19, [],false⟩∧tm.get 0=some (.slice pp l.length c)∧tm.get 1=some (.func (.func g) #[] caps)∧tm.get 7=some (.int .i64 l.length)∧tm.get 8=some (.int .i64 (j:Nat))∧j≤l.length∧n=l.length-j∧(∀i (h:i<l.length),i<j→p l[i]=false)∧Grow σ σ') ?_ l.length _ _ ?_
 ·rintro n a σ1 ⟨tm,j,rfl,e0,e1,e7,e8,hj,hn,hno,hgr⟩;by_cases hjl:j<l.length
  ·obtain⟨i,off,row,ro,rfl,hg,hin,hrow,hle⟩:=(hsl.grow hgr).at hjl;have hld:=qam (enc:=qag) qe1 hrow j hjl;have hl1:=qbe hle j hjl;have hw2:=qb7 j (by omega)
   simp [qa0,e0,e1,e7,e8,hjl,hg,hld,hl1,hext];have hpr:=λQ=>hpred l[j] (List.getElem_mem hjl) σ1 Q (hog _ _ hok hgr)
   try simp at hpr
   refine hpr _ fun σ2 g2=> ?_
   cases hat:p l[j] with
   |true=>
    have:=h j σ2 (.inr ⟨j,rfl,hjl,hat,hno⟩) (hgr.trans g2);simpa [qa0,hat] using this
   |false=>
    simp [qa0,hat,e0,e1,e7,e8,hw2];refine⟨_, ?_,j+1,rfl,by omega,rfl,λi h hi=> ?_,hgr.trans g2⟩
    ·omega
    ·by_cases e:i=j
     ·subst e;exact hat
     ·exact hno i h (by omega)
  ·have hjl':j=l.length:=by omega
   have:=h (-1) σ1 (.inl ⟨rfl,λx hx=>by
    obtain⟨i,hi,rfl⟩:=List.mem_iff_getElem.1 hx
    exact hno i hi (by omega)⟩) hgr
   simpa [qa0,e0,e1,e7,e8,hjl] using this
 ·refine⟨_,0,rfl, ?_⟩;simp;exact Grow.refl σ
theorem qhx (g:FuncId) (caps:Array Value) (hext:∀args s,qcr E1 (.func (.func g) #[] caps) args s=none) (p:Lk→Bool) (Ok:CSt→Prop) (b:Nat) (l:List Lk) (v:Value) (σ:CSt) (hog:∀s s',Ok s→qd3 v s s'→Ok s') (hown:qbj b σ 99 qag v l) (hok:Ok σ)
  (hpred:∀x∈l,∀s Q,Ok s→(∀s',Grow s s'→Q (.ret (.bool (p x)) false) s')→W E1 (.fn g (#[.agg (qag x).toArray]++caps) none) s Q) (hbig:l.length<2^38) (Q:Out→CSt→Prop)
  (h:∀(v':Value) (σ':CSt),qbj b σ' 99 qag v' (l.filter λx=> !p x)→(qb1 v'=qb1 v)→qd3 v σ σ'→Q (.ret v' false) σ'):W E1 (.fn 220 #[v, .func (.func g) #[] caps] none) σ Q:=by
 rw [qap (fn:=Tryz.f220) Tryz.func220 rfl rfl rfl];obtain⟨pp,c,rfl⟩:=(hown.sl (sz:=5) qe1).form;simp [qa0];refine qxs g caps hext p Ok (λs s' h1 h2=>hog s s' h1 h2.butV) l _ σ (hown.sl qe1) hok hpred (by omega) _ λr σ1 hr g1=> ?_
 rcases hr with⟨rfl,hall⟩|⟨k,rfl,hk,hpk,hno⟩
 ·have hf:(l.filter λx=> !p x)=l:=List.filter_eq_self.2 λx hx=>by simp [hall x hx]
  have:=h _ σ1 (by rw [hf];exact hown.grow g1) rfl g1.butV
  simpa [qa0] using this
 ·have hk1:¬((k:Nat):Int)= -1:=by omega
  have hwk:=qb7 k (by omega)
  rcases hown with⟨h0,h1⟩|⟨i0,cap,zs,h0,hbi,hin,hg0,hzs,hcap⟩
  ·rw [h1] at hk;simp at hk
  injection h0 with h0 _ h00
  subst h0;subst h00;have hcap:c=qa1:=by
   rcases hcap with hc|⟨hc,_⟩
   ·exact hc
   ·rw [hc] at hk;simp at hk
  subst hcap;have hobj:qb1 (.slice (some ⟨i0,0,none⟩) l.length qa1)=some i0:=rfl;simp [qa0,hk1,hwk];refine qak (λn a s=>∃(tm:Tr Value) (i j:Nat) (d:List Lk),a=⟨tm,42, [],false⟩∧tm.get 0=some (.slice (some ⟨i0,0,none⟩) l.length qa1)∧tm.get 1=some (.func (.func g) #[] caps)∧tm.get 5=some (.int .i64 (i:Nat))∧tm.get 6=some (.int .i64 (j:Nat))∧j≤l.length∧n=l.length-j∧d.length=l.length∧d.take i=((l.take j).filter λx=> !p x)∧i=((l.take j).filter λx=> !p x).length∧d.drop j=l.drop j∧i<j∧s.get i0=some (.cells (d.flatMap qag++zs) 99 false)∧qd3 (.slice (some ⟨i0,0,none⟩) l.length qa1) σ s)
   (λo s=>∃(tm:Tr Value) (i:Nat) (d:List Lk),o= .code (.exit 0) ⟨tm,42, [],false⟩∧tm.get 0=some (.slice (some ⟨i0,0,none⟩) l.length qa1)∧tm.get 5=some (.int .i64 (i:Nat))∧d.length=l.length∧d.take i=(l.filter λx=> !p x)∧i=(l.filter λx=> !p x).length∧i<l.length∧s.get i0=some (.cells (d.flatMap qag++zs) 99 false)∧qd3 (.slice (some ⟨i0,0,none⟩) l.length qa1) σ s) ?_ (l.length-(k+1)) _ _ ?_ ?_
  ·rintro n a s ⟨tm,i,j,d,rfl,e0,e1,e5,e6,hj,hn,hd,ht,hi,hdr,hij,hgs,hbs⟩;by_cases hjl:j<l.length
   ·have hjl':(j:Int)<l.length:=by omega
    have hjd:j<d.length:=by omega
    have hdj:=qh9 hjl hd hdr;have hrow:=rowZ qe1 d zs;have hrl:(d.flatMap qag++zs).length=d.length*5+zs.length:=by rw [List.length_append,qa5 qag qe1]
    have hld:=qam (enc:=qag) qe1 hrow j hjd;rw [Nat.zero_add,hdj] at hld;have hset:=λx=>qin qe1 d i x (by omega) zs
    have hw6:=qb7 j (by omega)
    have hw5:=qb7 i (by omega)
    have hil:i<l.length:=by omega
    have hsn:=hbs.1;generalize hrw:d.flatMap qag++zs=row at hgs hrow hrl hld hset;have hle1:j*5+5≤row.length:=by omega
    have hle2:i*5+5≤row.length:=by omega
    have hne:¬i0=s.n:=by omega
    have hgw:Grow s ((s.alloc (.cells [.int .i64 0, .string ⟨#[]⟩, .string ⟨#[]⟩, .int .u64 0, .int .u64 0] 99 false)).put s.n (.cells (qag l[j]) 99 false)):=((Grow.refl s).alloc _).put (Nat.le_refl _) _;have hcw:((s.alloc (.cells [.int .i64 0, .string ⟨#[]⟩, .string ⟨#[]⟩, .int .u64 0, .int .u64 0] 99 false)).put s.n (.cells (qag l[j]) 99 false)).get s.n=some (.cells (qag l[j]) 99 false):=by simp
    have htk:List.take 5 (qag l[j])=qag l[j]:=List.take_of_length_le (by rw [qe1];exact Nat.le_refl _)
    have hlen2:(qag l[j]).length=5:=qe1 _;have hcok2:qc9 (qag l[j])=true:=cokK _;have hnw:((s.alloc (.cells [.int .i64 0, .string ⟨#[]⟩, .string ⟨#[]⟩, .int .u64 0, .int .u64 0] 99 false)).put s.n (.cells (qag l[j]) 99 false)).n=s.n+1:=by simp
    simp [qa0,e0,e1,e5,e6,hjl,hjl',hgs,hld,hle1,hext,htk,hlen2,hcok2];generalize (s.alloc (.cells [.int .i64 0, .string ⟨#[]⟩, .string ⟨#[]⟩, .int .u64 0, .int .u64 0] 99 false)).put s.n (.cells (qag l[j]) 99 false)=s1 at hgw hcw hnw⊢;have hpr:=λQ=>hpred l[j] (List.getElem_mem hjl) s1 Q (hog _ _ hok (hbs.trans hgw.butV))
    try simp at hpr
    refine hpr _ λs2 g2=> ?_
    have g02:=hgw.trans g2;have hgs2:=g02.get hgs (by omega)
    have hcw2:=g2.get hcw (by omega)
    have hb2:=hbs.trans g02.butV;cases hp:p l[j] with
    |true=>
     obtain⟨k1,k2,k3⟩:=qc1 hjl ht hi hdr hp;simp [qa0,e0,e1,e5,e6,hw6];exact⟨n-1,by omega,i,rfl,j+1,rfl,by omega,by omega,d,hd,k1,k2,k3,by omega,by rw [hrw];exact hgs2,hb2⟩
    |false=>
     obtain⟨k0,k1,k2,k3⟩:=qc0 hjl hd ht hi hdr (by omega) hp
     have hset2:=hset l[j];have hil':(i:Int)<l.length:=by omega
     simp [qa0,e0,e1,e5,e6,hw5,hw6,hil,hil',hgs2,hcw2,htk,hlen2,hcok2,hle2];exact⟨n-1,by omega,i+1,rfl,j+1,rfl,by omega,by omega,d.set i l[j],k0,k1,k2,k3,by omega,by rw [←hset2,List.append_assoc],hb2.putV hobj _⟩
   ·have hjl':¬(j:Int)<l.length:=by omega
    have hje:j=l.length:=by omega
    rw [hje,List.take_length] at ht hi;simp [qa0,e0,e1,e5,e6,hjl,hjl'];exact⟨i,rfl,d,hd,ht,hi,by omega,hgs,hbs⟩
  ·have hft:=qfc hk hno hpk;refine⟨_,k,k+1,l,rfl, ?_⟩;simp;refine⟨by omega,by rw [hft],by rw [hft];simp;omega, ?_, ?_⟩
   ·exact g1.get hg0 hin
   ·exact g1.butV
  ·rintro o s ⟨tm,i,d,rfl,e0,e5,hd,ht,hi,hil,hgs,hbs⟩;have hzl:((List.replicate (l.length-i) ([.int .i64 0, .string ⟨#[]⟩, .string ⟨#[]⟩, .int .u64 0, .int .u64 0]:List Value)).flatten).length=(l.length-i)*5:=by
    rw [List.length_flatten];simp
   have hzc:qc9 ((List.replicate (l.length-i) ([.int .i64 0, .string ⟨#[]⟩, .string ⟨#[]⟩, .int .u64 0, .int .u64 0]:List Value)).flatten)=true:=qho _ _ rfl;have hrl:(d.flatMap qag++zs).length=d.length*5+zs.length:=by rw [List.length_append,qa5 qag qe1]
   have hcl:=qp7 qe1 d i (by omega) zs ((List.replicate (l.length-i) ([.int .i64 0, .string ⟨#[]⟩, .string ⟨#[]⟩, .int .u64 0, .int .u64 0]:List Value)).flatten) (by rw [hzl,hd])
   have hst:st (d.flatMap qag++zs) (i*5) ((List.replicate (l.length-i) ([.int .i64 0, .string ⟨#[]⟩, .string ⟨#[]⟩, .int .u64 0, .int .u64 0]:List Value)).flatten)=some ((d.take i).flatMap qag++((List.replicate (l.length-i) ([.int .i64 0, .string ⟨#[]⟩, .string ⟨#[]⟩, .int .u64 0, .int .u64 0]:List Value)).flatten++zs)):=by
    rw [←hcl];unfold st;rw [if_pos (by rw [hzl,hrl,hd];omega)]
   generalize hrw:d.flatMap qag++zs=row at hgs hrl hcl hst;have hil':¬l.length-i=0:=by omega
   have hi2:i≤l.length:=by omega
   have hle3:l.length*5≤row.length:=by omega
   have hle4:i*5≤row.length:=by omega
   simp [qa0,e0,e5,qb5,qdn,qgy,qiz,hgs,hi2,hil',hst,hle3,hle4,-qi0];rw [ht,hi];refine h _ _ (.inr ⟨i0,qa1,_,rfl,hbi,Nat.lt_of_lt_of_le hin hbs.1,by rw [CSt.get_put,if_pos rfl], ?_, .inl rfl⟩) rfl (hbs.putV hobj _)
   rw [qcb,hzs,←hi,hzc];rfl
end Go.Sm
