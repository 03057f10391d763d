/- Part A of the proof. -/
import GoSem.Step
import Derived.Calls
import Derived.CheckFast
import Derived.RowKit3
import Derived.WalkKit
import Derived.IntWalk
import Derived.Lib.ConvBytes
set_option linter.unusedVariables false
set_option linter.unusedSimpArgs false
namespace Go.Sm
open Go
inductive Tr (α:Type) where
 |nil
 |node (l:Tr α) (v:Option α) (r:Tr α)
namespace Tr
variable {α:Type}
def get:Tr α→Nat→Option α
 |nil,_=>none
 |node l v r,i=>if i=0 then v else if i %2=1 then l.get (i/2) else r.get (i/2-1)
def lft:Tr α→Tr α|nil=>nil|node l _ _=>l
def mid:Tr α→Option α|nil=>none|node _ v _=>v
def rgt:Tr α→Tr α|nil=>nil|node _ _ r=>r
def setF (a:α):Nat→Tr α→Nat→Tr α
 |0,t,_=>t
 |f+1,t,i=>if i=0 then node t.lft (some a) t.rgt else if i %2=1 then node (setF a f t.lft (i/2)) t.mid t.rgt else node t.lft t.mid (setF a f t.rgt (i/2-1))
def set (t:Tr α) (i:Nat) (a:α):Tr α:=setF a (i+1) t i
theorem get_nil (i:Nat):(nil:Tr α).get i=none:=rfl
theorem get_eta (t:Tr α) (i:Nat):t.get i=if i=0 then t.mid else if i %2=1 then t.lft.get (i/2) else t.rgt.get (i/2-1):=by
 cases t with
 |nil=>simp [get,mid,lft,rgt]
 |node l v r=>simp [get,mid,lft,rgt]
theorem get_setF (a:α):∀(f:Nat) (t:Tr α) (i j:Nat),i<f→(setF a f t i).get j=if j=i then some a else t.get j:=by
 intro f
 induction f with
 |zero=>intro t i j h;omega
 |succ f ih=>
  intro t i j h;rw [get_eta t j];unfold setF;by_cases h0:i=0
  ·subst h0;by_cases j0:j=0<;>simp [get,j0]
  ·by_cases h1:i %2=1
   ·simp only [h0,h1,if_false,if_true,get];by_cases j0:j=0
    ·subst j0;simp;omega
    ·by_cases j1:j %2=1
     ·simp only [j0,j1,if_false,if_true];rw [ih _ _ _ (by omega)]
      by_cases e:j/2=i/2
      ·rw [if_pos e,if_pos (by omega)]
      ·rw [if_neg e,if_neg (by omega)]
     ·simp only [j0,j1,if_false];rw [if_neg (by omega)]
   ·simp only [h0,h1,if_false,get];by_cases j0:j=0
    ·subst j0;simp;omega
    ·by_cases j1:j %2=1
     ·simp only [j0,j1,if_false,if_true];rw [if_neg (by omega)]
     ·simp only [j0,j1,if_false];rw [ih _ _ _ (by omega)]
      by_cases e:j/2-1=i/2-1
      ·rw [if_pos e,if_pos (by omega)]
      ·rw [if_neg e,if_neg (by omega)]
theorem get_set (t:Tr α) (i j:Nat) (a:α):(t.set i a).get j=if j=i then some a else t.get j:=get_setF a _ _ _ _ (Nat.lt_succ_self i)
end Tr
structure CDef where
 f:Value
 args:Array Value
structure CAct where
 tm:Tr Value
 sz:Nat
 df:List CDef
 tk:Bool
inductive CObj where
 |cells (c:List Value) (elem:TypeId) (ro:Bool)
 |map (es:Array MapEntry) (clock:Nat)
 |siter (s:ByteArray) (pos:Nat)
 |miter (m:Option Nat) (since:Nat) (seen:Array Nat) (stepped:Nat)
 |loop (st:LoopState) (pend:Option Code) (fn:FuncId) (tm:Tr Value) (sz:Nat) (params:Array Tmp) (assign body:Code)
 |dead
structure CSt where
 h:Tr CObj
 n:Nat
def CSt.get (σ:CSt) (i:Nat):Option CObj:=σ.h.get i
def CSt.alloc (σ:CSt) (o:CObj):CSt:=⟨σ.h.set σ.n o,σ.n+1⟩
def CSt.put (σ:CSt) (i:Nat) (o:CObj):CSt:=⟨σ.h.set i o,σ.n⟩
theorem CSt.get_alloc (σ:CSt) (o:CObj) (i:Nat):(σ.alloc o).get i=if i=σ.n then some o else σ.get i:=Tr.get_set ..
theorem CSt.get_put (σ:CSt) (j:Nat) (o:CObj) (i:Nat):(σ.put j o).get i=if i=j then some o else σ.get i:=Tr.get_set ..
theorem CSt.n_alloc (σ:CSt) (o:CObj):(σ.alloc o).n=σ.n+1:=rfl
inductive CEx where
 |normal
 |exit (id:Nat)
 |goto (l:Nat)
 |ret
 |panic (v:Value)
structure Ctx where
 f:FuncId
 rnd:Option Nat
 dk:Option (Option Value)
inductive Task where
 |code (x:Ctx) (c:Code) (a:CAct)
 |scope (x:Ctx) (body c:Code) (a:CAct)
 |ops (x:Ctx) (ops:Array Oper) (todo:List Nat) (a:CAct)
 |fn (f:FuncId) (args:Array Value) (dk:Option (Option Value))
 |round (l:Nat) (args:Array Value)
 |unw (x:Ctx) (a:CAct) (m:Option Value)
inductive Out where
 |code (e:CEx) (a:CAct)
 |ret (v:Value) (tk:Bool)
 |pan (v:Value)
def qae:Value→Bool
 | .bool _| .int _ _| .float _ _| .complex _ _ _| .string _| .pointer none| .slice none 0 0| .map none| .nilFunc| .nilIface=>true
 |_=>false
def flat:Value→Bool
 | .agg cs=>cs.toList.all qae
 |v=>qae v
def qb8:Nat:=256
def nope:Value:= .chan none
def qa1:Nat:=2^63
def CAct.get (a:CAct) (i:Nat):Value:=(a.tm.get i).getD undef
def CAct.put (a:CAct) (d:Option Tmp) (v:Value):CAct:=
 match d with
 |some d=>if d<a.sz then {a with tm:=a.tm.set d v} else a
 |none=>a
def CAct.eval (a:CAct):Operand→Value
 | .tmp t=>a.get t
 | .const v=>if flat v then v else undef
 | .global g=>if g<qb8 then .pointer (some ⟨g,0,none⟩) else undef
 | .func f=> .func (.func f) #[] #[]
end Go.Sm
namespace Go.Sm
open Go
set_option maxRecDepth 100000
set_option maxHeartbeats 4000000
def qaq (P:Program) {α:Type}:Sem α→Option α
 | .pure a=>some a
 | .program k=>qaq P (k P)
 |_=>none
theorem qtp {P:Program} {α:Type}:∀{s:Sem α} {a:α},qaq P s=some a→∀w,s.run P w= .ok a w:=by
 intro s
 induction s with
 |pure a=>intro b h w;simp only [qaq,Option.some.injEq] at h;rw [h];rfl
 |program k ih=>intro b h w;simp only [qaq] at h;simp only [Sem.run];exact ih _ h w
 |_=>intro b h;simp [qaq] at h
def ld (c:List Value) (off n:Nat):Option (List Value):=if off+n≤c.length then some ((c.drop off).take n) else none
def st (c:List Value) (off:Nat) (vs:List Value):Option (List Value):=if off+vs.length≤c.length then some (c.take off++vs++c.drop (off+vs.length)) else none
def cellv:Value→Bool
 | .agg _| .tuple _| .chan _=>false
 |_=>true
def qd6 (P:Program) (t:TypeId):Bool:=
 match P.underlying t with
 |some (.struct _)|some (.array _ _)=>true
 |_=>false
def CSt.cells (σ:CSt) (i:Nat):Option (List Value×TypeId×Bool):=
 match σ.get i with
 |some (.cells c e ro)=>some (c,e,ro)
 |_=>none
def CSt.maps (σ:CSt) (i:Nat):Option (Array MapEntry×Nat):=
 match σ.get i with
 |some (.map es k)=>some (es,k)
 |_=>none
def loadAt (P:Program) (σ:CSt) (t:TypeId):Value→Option Value
 | .pointer (some ⟨i,off,none⟩)=>
  match σ.cells i with
  |some (c,_,_)=>
   match P.info? t with
   |some inf=>if qd6 P t then(ld c off inf.size).map (λl=> .agg l.toArray) else if P.underlying t=none then none else c[off]?
   |none=>none
  |none=>none
 |_=>none
def storeAt (P:Program) (σ:CSt) (t:TypeId) (a v:Value):Option CSt:=
 match a with
 | .pointer (some ⟨i,off,none⟩)=>
  match σ.cells i,P.info? t with
  |some (c,e,ro),some inf=>if ro=false∧v.cells.size=inf.size∧v.cells.toList.all cellv then(st c off v.cells.toList).map (λc'=>σ.put i (.cells c' e ro)) else none
  |_,_=>none
 |_=>none
inductive OpR where
 |val (v:Value) (σ:CSt)
 |pick (n:Nat) (k:Nat→Value×CSt)
 |every (p:Nat→Bool) (k:Nat→Value×CSt)
 |call (f:Value) (args:Array Value)
 |panic (v:Value)
 |defer (d:CDef)
 |recover
 |fail
def OpR.ofV (σ:CSt):Option Value→OpR
 |some v=> .val v σ
 |none=> .fail
def OpR.ofP:Option (Value×CSt)→OpR
 |some (v,σ)=> .val v σ
 |none=> .fail
def OpR.ofS:Option CSt→OpR
 |some σ=> .val undef σ
 |none=> .fail
def qbc (P:Program) (σ:CSt) (ev:Operand→Value) (o:Oper):OpR:=
 if o.op.operands.toList.all (λx=>flat (ev x)) then
  match qaq P (execOp ev o) with
  |some (.value v)=>if flat v then .val v σ else .fail
  |_=> .fail
 else .fail
def intOf? :Value→Option Int
 | .int _ n=>some n
 |_=>none
def qai (dflt:Nat):Option Value→Option Nat
 |none=>some dflt
 |some (.int _ n)=>if 0≤n then some n.toNat else none
 |some _=>none
def qdv (P:Program) (t:TypeId):Option (TypeId×TypeInfo):=
 match P.underlying t with
 |some (.slice e)=>(P.info? e).map λi=>(e,i)
 |_=>none
def qd7 (P:Program) (σ:CSt) (t:TypeId) (x:Value) (lo hi mx:Option Value):Option Value:=
 match qdv P t,x with
 |some (_,inf), .slice none 0 0=>
  match qai 0 lo,qai 0 hi,qai 0 mx with
  |some l,some h,some m=>if l≤h∧h≤m∧m≤0∧(mx.isSome→hi.isSome)∧inf.size=inf.size then some (.slice none 0 0) else none
  |_,_,_=>none
 |some (e,inf), .slice (some ⟨i,off,none⟩) len cap=>
  if cap=qa1 then
   match σ.cells i with
   |some (c,e',_)=>
    if e'=e∧0<inf.size then
     match qai 0 lo,qai len hi,mx with
     |some l,some h,none=>if l≤h∧(h≤len∨off+h*inf.size≤c.length) then some (.slice (some ⟨i,off+l*inf.size,none⟩) (h-l) qa1) else none
     |some l,some h,some mv=>
      match qai 0 (some mv) with
      |some m=>if l≤h∧h≤m∧hi.isSome∧(m≤len∨off+m*inf.size≤c.length)∧m<qa1 then some (.slice (some ⟨i,if m=l then off else off+l*inf.size,none⟩) (h-l) (m-l)) else none
      |none=>none
     |_,_,_=>none
    else none
   |none=>none
  else
   match qai 0 lo,qai len hi,qai cap mx with
   |some l,some h,some m=>if l≤h∧h≤m∧m≤cap∧(mx.isSome→hi.isSome)∧m<qa1 then some (.slice (some ⟨i,if m=l then off else off+l*inf.size,none⟩) (h-l) (m-l)) else none
   |_,_,_=>none
 |_,_=>none
def indexAt (P:Program) (t:TypeId) (x ix:Value):Option Value:=
 match ix with
 | .int _ n=>
  match P.underlying t,x with
  |some (.slice e), .slice (some ⟨i,off,none⟩) len _=>
   match P.info? e with
   |some inf=>if 0≤n∧n<len then some (.pointer (some ⟨i,off+n.toNat*inf.size,none⟩)) else none
   |none=>none
  |some (.array len e), .pointer (some ⟨i,off,none⟩)=>
   match P.info? e with
   |some inf=>if 0≤n∧n<len then some (.pointer (some ⟨i,off+n.toNat*inf.size,none⟩)) else none
   |none=>none
  |_,_=>none
 |_=>none
def fieldAt (P:Program) (s:TypeId) (x:Value) (f:Nat):Option Value:=
 match P.underlying s,x with
 |some (.struct fs), .pointer (some ⟨i,off,none⟩)=>
  match fs[f]? with
  |some fl=>
   match P.info? fl.type with
   |some inf=>if inf.size=0 then none else some (.pointer (some ⟨i,off+fl.offset,none⟩))
   |none=>none
  |none=>none
 |_,_=>none
def qyx (P:Program) (t:TypeId) (cs:Array Value) (off:Nat):Option Value:=
 if qd6 P t then(P.info? t).map λinf=> .agg (cs.extract off (off+inf.size))
 else if P.underlying t=none then none else cs[off]?
def qtd (P:Program) (s:TypeId) (x:Value) (f:Nat):Option Value:=
 match P.underlying s,x with
 |some (.struct fs), .agg cs=>
  match fs[f]? with
  |some fl=>qyx P fl.type cs fl.offset
  |none=>none
 |_,_=>none
def qcz (σ:CSt) (size n:Nat):Value→Option (List Value)
 | .slice (some ⟨i,off,none⟩) _ _=>
  match σ.cells i with
  |some (c,_,_)=>ld c off (n*size)
  |none=>none
 | .slice none 0 0=>some []
 | .string s=>some ((s.extract 0 n).data.toList.map λb=> .int .u8 b.toNat)
 |_=>none
def qea :Value→Option Nat
 | .slice _ n _=>some n
 | .string s=>some s.size
 |_=>none
def qbz (zero:Array Value) (n:Nat):List Value:=((Array.range (n*zero.size)).map λi=>zero[i %zero.size]!).toList
def qeu (P:Program) (σ:CSt) (e:TypeId) (inf:TypeInfo) (s:Value) (n:Nat) (new:List Value):Option (Value×CSt):=
 if new.length=n*inf.size∧new.all cellv∧0<inf.size∧0<inf.bytes∧(inf.zero.map λz=>z.cells.size)=some inf.size then
 match s with
 | .slice none 0 0=>
  if n=0 then some (s,σ)
  else if n*inf.bytes≤2^47 then some (.slice (some ⟨σ.n,0,none⟩) n qa1,σ.alloc (.cells new e false)) else none
 | .slice (some ⟨i,off,none⟩) len cap=>
  if n=0 then(if len≤cap then some (s,σ) else none) else
  match σ.cells i with
  |none=>none
  |some (c,e',ro)=>
   if cap=qa1 then
    if e'=e∧ro=false then
     if off+(len+n)*inf.size≤c.length then
      (st c (off+len*inf.size) new).map λc'=>(.slice (some ⟨i,off,none⟩) (len+n) qa1,σ.put i (.cells c' e' ro))
     else if(len+n)*inf.bytes≤2^47 then
      (ld c off (len*inf.size)).map λold=>(.slice (some ⟨σ.n,0,none⟩) (len+n) qa1,(σ.put i .dead).alloc (.cells (old++new) e false))
     else none
    else none
   else if len+n≤cap then
    if ro=false then(st c (off+len*inf.size) new).map λc'=>(.slice (some ⟨i,off,none⟩) (len+n) cap,σ.put i (.cells c' e' ro)) else none
   else if(len+n)*inf.bytes≤2^47 then
    (ld c off (len*inf.size)).map λold=>(.slice (some ⟨σ.n,0,none⟩) (len+n) qa1,σ.alloc (.cells (old++new) e false))
   else none
 |_=>none
 else none
def qas (P:Program) (σ:CSt) (ts:Array TypeId) (s x:Value):Option (Value×CSt):=
 match ts[0]?,ts[1]? with
 |some t,some u=>
  match qdv P t,P.underlying u with
  |some (e,inf),some (.int _)=>
   match x,inf.zero with
   | .int _ n,some z=>if 0≤n∧n*inf.bytes≤2^47∧z.cells.size=inf.size∧z.cells.toList.all qae then qeu P σ e inf s n.toNat (qbz z.cells n.toNat) else none
   |_,_=>none
  |some (e,inf),some (.slice _)|some (e,inf),some .string=>
   match qea x with
   |some n=>(qcz σ inf.size n x).bind λnew=>qeu P σ e inf s n new
   |none=>none
  |_,_=>none
 |_,_=>none
def qj4 (σ:CSt) (base:Option Addr) (n:Nat) (new:List Value):Option CSt:=
 if n=0 then some σ else
 match base with
 |some ⟨i,off,none⟩=>
  match σ.cells i with
  |some (c,e,false)=>(st c off new).map λc'=>σ.put i (.cells c' e false)
  |_=>none
 |_=>none
def qmz (P:Program) (σ:CSt) (ts:Array TypeId) (d s:Value):Option (Value×CSt):=
 match ts[0]?,qea s,d with
 |some t,some sl, .slice base dl _=>
  match qdv P t with
  |some (_,inf)=>
   match qcz σ inf.size (Nat.min sl dl) s with
   |some new=>if new.length=Nat.min sl dl*inf.size∧new.all cellv then(qj4 σ base (Nat.min sl dl) new).map fun σ'=>(.int .i64 (Nat.min sl dl:Nat),σ') else none
   |none=>none
  |none=>none
 |_,_,_=>none
def qjf (P:Program) (σ:CSt) (ts:Array TypeId) (x:Value):Option (Value×CSt):=
 match ts[0]? with
 |some t=>
  match P.underlying t,x with
  |some (.slice e), .slice (some ⟨i,off,none⟩) n _=>
   if n=0 then some (undef,σ) else
   match P.info? e,σ.cells i with
   |some inf,some (c,e',false)=>
    match inf.zero with
    |some z=>if z.cells.size=inf.size∧z.cells.toList.all qae then(st c off (qbz z.cells n)).map λc'=>(undef,σ.put i (.cells c' e' false)) else none
    |none=>none
   |_,_=>none
  |some (.slice _), .slice none 0 0=>some (undef,σ)
  |some (.map _ _), .map (some i)=>
   match σ.maps i with
   |some (_,k)=>some (undef,σ.put i (.map #[] k))
   |none=>none
  |some (.map _ _), .map none=>some (undef,σ)
  |_,_=>none
 |none=>none
def qdb (P:Program) (t:TypeId):Option TypeDesc:=
 match P.underlying t with
 |some (.int k)=>some (.int k)
 |some .string=>some .string
 |some .bool=>some .bool
 |_=>none
def qht (P:Program) (kt:TypeId) (k:Value) (es:Array MapEntry):Option (Option (Nat×Value)):=
 match qdb P kt with
 |some kd=>Instr.findNow kd k es.toList 0
 |none=>none
def qje (P:Program) (t:TypeId):Option Value:=
 match P.info? t with
 |some inf=>match inf.zero with|some z=>if flat z then some z else none|none=>none
 |none=>none
def qbr (P:Program) (σ:CSt) (t:TypeId) (m k:Value) (ok:Bool):Option Value:=
 match P.underlying t with
 |some (.map kt et)=>
  let es? :Option (Array MapEntry):=match m with| .map none=>some #[]| .map (some i)=>(σ.maps i).map (·.1)|_=>none
  match es? with
  |some es=>
   if qae k then
    match qht P kt k es with
    |some (some (_,v))=>some (if ok then .tuple #[v, .bool true] else v)
    |some none=>(qje P et).map λz=>if ok then .tuple #[z, .bool false] else z
    |none=>none
   else none
  |none=>none
 |_=>none
def qdh (P:Program) (σ:CSt) (t:TypeId) (m k v:Value):Option CSt:=
 match P.underlying t,m with
 |some (.map kt _), .map (some i)=>
  match σ.maps i with
  |some (es,clock)=>
   if qae k then
    match qht P kt k es with
    |some (some (j,_))=>some (σ.put i (.map (es.modify j λe=>{e with key:=k,val:=v}) clock))
    |some none=>some (σ.put i (.map (es.push {key:=k,val:=v,born:=clock}) (clock+1)))
    |none=>none
   else none
  |none=>none
 |_,_=>none
def qha (P:Program) (σ:CSt) (ts:Array TypeId) (m k:Value):Option CSt:=
 match ts[0]? with
 |some t=>
  match P.underlying t,m with
  |some (.map kt _), .map (some i)=>
   match σ.maps i with
   |some (es,clock)=>
    if qae k then
     match qht P kt k es with
     |some (some (j,_))=>some (σ.put i (.map (es.eraseIdxIfInBounds j) clock))
     |some none=>some (σ.put i (.map es clock))
     |none=>none
    else none
   |none=>none
  |some (.map kt _), .map none=>if qae k∧(qdb P kt).isSome then some σ else none
  |_,_=>none
 |none=>none
def qqx (P:Program) (σ:CSt) (ts:Array TypeId) (x:Value):Option Value:=
 match ts[0]? with
 |some t=>
  match P.underlying t,x with
  |some .string, .string s=>some (.int .i64 s.size)
  |some (.slice _), .slice _ n _=>some (.int .i64 n)
  |some (.map _ _), .map none=>some (.int .i64 0)
  |some (.map _ _), .map (some i)=>(σ.maps i).map λp=> .int .i64 p.1.size
  |_,_=>none
 |none=>none
def qg3 (P:Program) (σ:CSt) (t:TypeId) (x:Value):Option (Value×CSt):=
 match P.underlying t,x with
 |some .string, .string s=>some (.pointer (some ⟨σ.n,0,none⟩),σ.alloc (.siter s 0))
 |some (.map _ _), .map none=>some (.pointer (some ⟨σ.n,0,none⟩),σ.alloc (.miter none 0 #[] 0))
 |some (.map _ _), .map (some m)=>
  match σ.maps m with
  |some (_,clock)=>some (.pointer (some ⟨σ.n,0,none⟩),σ.alloc (.miter (some m) clock #[] clock))
  |none=>none
 |_,_=>none
def mapNext (es:Array MapEntry) (since:Nat) (seen:Array Nat):Array (Option MapEntry):=
 let left:=es.filter λe=> !seen.contains e.born
 let old:=left.filter (·.born<since)
 let new:=left.filter (·.born≥since)
 (if old.isEmpty then #[none] else #[])++(old++new).map some
def qej (σ:CSt) (it:Value) (isString:Bool):OpR:=
 match it with
 | .pointer (some ⟨r,0,none⟩)=>
  match σ.get r,isString with
  |some (.siter s pos),true=>
   if pos<s.size then
    .val (.tuple #[.bool true, .int .i64 pos, .int .i32 (Utf8.decode s pos).1]) (σ.put r (.siter s (pos+(Utf8.decode s pos).2)))
   else .val (.tuple #[.bool false]) σ
  |some (.miter none _ _ _),false=> .val (.tuple #[.bool false]) σ
  |some (.miter (some m) since seen last),false=>
   match σ.maps m with
   |some (es,clock)=>
    if(!seen.isEmpty&& !es.isEmpty&&es.all (·.born≥last))=true then .fail else
    .pick (mapNext es since seen).size λj=>
     match(mapNext es since seen)[j]? with
     |some (some e)=>(.tuple #[.bool true,e.key,e.val],σ.put r (.miter (some m) since (seen.push e.born) clock))
     |_=>(.tuple #[.bool false],σ)
   |none=> .fail
  |_,_=> .fail
 |_=> .fail
def qgs (σ:CSt) (it:Value):Option Value:=
 match it with
 | .pointer (some ⟨r,0,none⟩)=>
  match σ.get r with
  |some (.miter (some m) _ seen stepped)=>
   match σ.maps m,seen.back? with
   |some (es,clock),some stamp=>
    if clock=stepped then(es.find? (·.born==stamp)).map λe=> .tuple #[e.key,e.val] else none
   |_,_=>none
  |_=>none
 |_=>none
def qg2 (P:Program) (t:TypeId) (x y:Value):Bool:=
 match P.underlying t,x,y with
 |some (.pointer _), .pointer (some _), .pointer none|some (.pointer _), .pointer none, .pointer (some _)=>true
 |some (.slice _), .slice (some _) _ _, .slice none 0 0|some (.slice _), .slice none 0 0, .slice (some _) _ _=>true
 |some (.map _ _), .map (some _), .map none|some (.map _ _), .map none, .map (some _)=>true
 |some (.func _ _ _), .func _ _ _, .nilFunc|some (.func _ _ _), .nilFunc, .func _ _ _=>true
 |some (.interface _), .iface _ _, .nilIface|some (.interface _), .nilIface, .iface _ _=>true
 |_,_,_=>false
def qg1 :List Value→Option (List UInt8)
 | []=>some []
 | .int .u8 n::l=>(qg1 l).map λr=>UInt8.ofNat n.toNat::r
 |_::_=>none
def qd9 (P:Program) (σ:CSt) (src dst:TypeId) (x:Value):OpR:=
 match P.underlying src,P.underlying dst,x with
 |some (.slice e),some .string, .slice none 0 0=>match P.underlying e with|some (.int .u8)=> .val (.string .empty) σ|_=> .fail
 |some (.slice e),some .string, .slice (some ⟨i,off,none⟩) len _=>
  match P.underlying e,σ.cells i with
  |some (.int .u8),some (c,_,_)=>
   match(ld c off len).bind qg1 with
   |some l=> .val (.string ⟨l.toArray⟩) σ
   |none=> .fail
  |_,_=> .fail
 |some .string,some (.slice e), .string s=>
  match P.underlying e,P.info? e with
  |some (.int .u8),some inf=>
   if inf.size=1∧s.size<2^62 then .val (.slice (some ⟨σ.n,0,none⟩) s.size qa1) (σ.alloc (.cells (s.data.toList.map λb=> .int .u8 b.toNat) e false)) else .fail
  |_,_=> .fail
 |some (.slice _),some (.slice e), .slice (some ⟨i,off,none⟩) len cap=>
  match P.underlying e,σ.get i with
  |some (.int .u8),some (.cells c e' false)=>if src=dst∧0<len∧e'=e then .val (.slice (some ⟨i,off,none⟩) len cap) (σ.put i (.cells c e' false)) else .fail
  |_,_=> .fail
 |_,_,_=> .fail
def qhr (P:Program) (σ:CSt) (t:TypeId) (len cap:Value):Option (Value×CSt):=
 match qdv P t,len,cap with
 |some (e,inf), .int _ l, .int _ c=>
  match inf.zero with
  |some z=>if 0≤l∧l≤c∧inf.bytes*c≤2^47∧c<2^62∧z.cells.size=inf.size∧z.cells.toList.all qae∧z.cells.toList.all cellv then
    some (.slice (some ⟨σ.n,0,none⟩) l.toNat c.toNat,σ.alloc (.cells ((Array.range (c.toNat*inf.size)).map (z.cells[· %z.cells.size]!)).toList e false))
   else none
  |none=>none
 |_,_,_=>none
def qoj (P:Program) (σ:CSt) (e:TypeId):Option (Value×CSt):=
 match P.info? e with
 |some inf=>match inf.zero with
  |some z=>if z.cells.toList.all qae then some (.pointer (some ⟨σ.n,0,none⟩),σ.alloc (.cells z.cells.toList e false)) else none
  |none=>none
 |none=>none
def qe3 (P:Program) (σ:CSt) (t:TypeId) (len:Nat) (parts:Array (Nat×Value)):Option (Value×CSt):=
 match qdv P t with
 |some (e,inf)=>
  if len≤2^24∧len*inf.size≤2^24∧parts.toList.all (λp=>p.2.cells.toList.all cellv) then
   match(if len*inf.size=0 then some #[] else(match inf.zero with|some z=>if z.cells.toList.all qae then some z.cells else none|none=>none):Option (Array Value)) with
   |some zero=>
    match Instr.fill (λi=>some (i*inf.size,inf.size)) ((Array.range (len*inf.size)).map (zero[· %zero.size]!)) parts.toList with
    |some cs=>some (.slice (some ⟨σ.n,0,none⟩) len len,σ.alloc (.cells cs.toList e false))
    |none=>none
   |none=>none
  else none
 |none=>none
def qju (P:Program):List Field→Option (List (Nat×Nat))
 | []=>some []
 |f::l=>match P.info? f.type with|some inf=>(qju P l).map λr=>(f.offset,inf.size)::r|none=>none
def qli (P:Program) (t:TypeId) (parts:Array (Nat×Value)):Option Value:=
 if parts.toList.all (λp=>p.2.cells.toList.all cellv) then
  match P.info? t with
  |some inf=>
   match inf.zero with
   |some z=>
    if z.cells.toList.all qae then
     match P.underlying t with
     |some (.struct fs)=>match qju P fs.toList with
      |some pl=>(Instr.fill (pl.toArray[·]?) z.cells parts.toList).map .agg
      |none=>none
     |some (.array _ e)=>match P.info? e with
      |some ie=>(Instr.fill (λi=>some (i*ie.size,ie.size)) z.cells parts.toList).map .agg
      |none=>none
     |_=>none
    else none
   |none=>none
  |none=>none
 else none
def qon (P:Program) (x:Value) (asserted:TypeId) (ok:Bool):Option Value:=
 match P.underlying asserted,x with
 |some (.interface _),_=>none
 |none,_=>none
 |some _, .iface t v=>
  if t=asserted then some (if ok then .tuple #[v, .bool true] else v)
  else if ok then(qje P asserted).map λz=> .tuple #[z, .bool false] else none
 |_,_=>none
def qb6 (P:Program) (op:BinOp) (t:TypeId) (x y:Value):Option Value:=
 if qg2 P t x y then
  match op with
  | .eql=>some (.bool false)
  | .neq=>some (.bool true)
  |_=>none
 else none
def qbg (c:List Value) (off size k:Nat):List Value:=if k=0 then c else c++List.replicate (off+k*size-c.length) undef
def qpc (P:Program) (σ:CSt) (ts:Array TypeId) (i off n:Nat):OpR:=
 match ts[0]? with
 |some t=>
  match qdv P t,σ.get i with
  |some (e,inf),some (.cells c e' false)=>
   if e'=e∧P.cellsOf e=inf.size then .every (λk=>decide (n≤k)&&decide (k<qa1)) (λk=>(.int .i64 k,σ.put i (.cells (qbg c off inf.size k) e' false))) else .fail
  |_,_=> .fail
 |none=> .fail
def OpR.or:OpR→OpR→OpR
 | .fail,r=>r
 |r,_=>r
def qbs (P:Program) (σ:CSt) (ev:Operand→Value) (o:Oper) (c:Call):OpR:=
 match c.callee with
 | .value f=> .call (ev f) (c.args.map ev)
 | .invoke _ _=> .fail
 | .builtin b=>
  match b,(c.args.map ev).toList with
  | .len, [x]=>OpR.ofV σ (qqx P σ c.argTypes x)
  | .append, [s,x]=>OpR.ofP (qas P σ c.argTypes s x)
  | .copy, [d,s]=>OpR.ofP (qmz P σ c.argTypes d s)
  | .clear, [x]=>OpR.ofP (qjf P σ c.argTypes x)
  | .delete, [m,k]=>OpR.ofS (qha P σ c.argTypes m k)
  | .cap, [.slice none 0 0]=>qbc P σ ev o
  | .cap, [.slice (some ⟨i,off,none⟩) n k]=>if k=qa1 then qpc P σ c.argTypes i off n else(match c.argTypes[0]? with|some t=>(match P.underlying t with|some (.slice _)=> .val (.int .i64 k) σ|_=> .fail)|none=> .fail)
  | .recover, []=> .recover
  | .min,_| .max,_| .real,_| .imag,_| .complex,_=>qbc P σ ev o
  |_,_=> .fail
def cop (P:Program) (σ:CSt) (ev:Operand→Value) (o:Oper):OpR:=
 match o.op with
 | .move x| .assign x=> .val (ev x) σ
 | .pick c a b=>match ev c with| .bool t=> .val (if t then ev a else ev b) σ|_=> .fail
 | .alloc e=>OpR.ofP (qoj P σ e)
 | .box e x=>if(ev x).cells.toList.all cellv then .val (.pointer (some ⟨σ.n,0,none⟩)) (σ.alloc (.cells (ev x).cells.toList e false)) else .fail
 | .build t parts=>OpR.ofV σ (qli P t (parts.map λp=>(p.1,ev p.2)))
 | .buildSlice t len parts=>OpR.ofP (qe3 P σ t len (parts.map λp=>(p.1,ev p.2)))
 | .load t a=>OpR.ofV σ (loadAt P σ t (ev a))
 | .store t a x=>OpR.ofS (storeAt P σ t (ev a) (ev x))
 | .nilCheck x=>match ev x with
  | .pointer (some a)=> .val (.pointer (some a)) σ
  | .func (.func f) fs cs=> .val (.func (.func f) fs cs) σ
  | .func (.yield f) fs cs=> .val (.func (.yield f) fs cs) σ
  | .iface t v=> .val (.iface t v) σ
  |_=> .fail
 | .binOp op t x y _=>match qb6 P op t (ev x) (ev y) with|some v=> .val v σ|none=>qbc P σ ev o
 | .unOp _ _ _=>qbc P σ ev o
 | .convert src dst x=>(qd9 P σ src dst (ev x)).or (qbc P σ ev o)
 | .makeInterface t x=>match P.underlying t with|some (.interface _)=> .fail|none=> .fail|some _=> .val (.iface t (ev x)) σ
 | .makeFunc fn first captured=>match fn with| .yield _=> .fail|_=> .val (.func fn (first.map ev) (captured.map ev)) σ
 | .makeMap t none=>match P.underlying t with|some (.map _ _)=> .val (.map (some σ.n)) (σ.alloc (.map #[] 0))|_=> .fail
 | .makeMap t (some r)=>match P.underlying t,ev r with|some (.map _ _), .int _ _=> .val (.map (some σ.n)) (σ.alloc (.map #[] 0))|_,_=> .fail
 | .makeSlice t l c=>OpR.ofP (qhr P σ t (ev l) (ev c))
 | .slice t x lo hi mx=>(OpR.ofV σ (qd7 P σ t (ev x) (lo.map ev) (hi.map ev) (mx.map ev))).or (qbc P σ ev o)
 | .fieldAddr s x f=>OpR.ofV σ (fieldAt P s (ev x) f)
 | .field t x f=>OpR.ofV σ (qtd P t (ev x) f)
 | .indexAddr t x ix=>OpR.ofV σ (indexAt P t (ev x) (ev ix))
 | .index _ _ _=>qbc P σ ev o
 | .lookup t m k ok=>OpR.ofV σ (qbr P σ t (ev m) (ev k) ok)
 | .mapUpdate t m k x| .insert t m k x=>OpR.ofS (qdh P σ t (ev m) (ev k) (ev x))
 | .range t x=>OpR.ofP (qg3 P σ t (ev x))
 | .next it s=>qej σ (ev it) s
 | .entry it=>OpR.ofV σ (qgs σ (ev it))
 | .typeAssert x _ asserted ok=>OpR.ofV σ (qon P (ev x) asserted ok)
 | .extract t i=>match ev t with| .tuple vs=>OpR.ofV σ vs[i]? |_=> .fail
 | .call c=>qbs P σ ev o c
 | .defer c=>match c.callee with| .value f=>(match ev f with| .func (.func g) fs cs=> .defer ⟨.func (.func g) fs cs,c.args.map ev⟩|_=> .fail)|_=> .fail
 | .panic x=>match ev x with| .iface t v=> .panic (.iface t v)|_=> .fail
 |_=> .fail
end Go.Sm
namespace Go.Sm
open Go
structure Lat (L:Type) where
 no:L
 all:Nat→(Nat→L)→L
 every:(Nat→Bool)→(Nat→L)→L
structure Env where
 P:Program
 gam:FuncId→Option (Array Value→CSt→Option (Value×CSt))
 ext:FuncId→Array Value→CSt→Option Value:=λ_ _ _=>none
 bare:FuncId→Option Nat:=λ_=>none
def qlf (E:Env) (f:FuncId) (args:Array Value) (σ:CSt):Option (Nat×Nat×Nat×Nat×List Value×TypeId):=
 match E.bare f with
 |some j=>
  match args[j]? with
  |some (.slice (some ⟨i,off,none⟩) n c)=>
   if c=qa1∧n<qa1 then
    match σ.get i with
    |some (.cells row e false)=>some (j,i,off,n,row,e)
    |_=>none
   else none
  |_=>none
 |none=>none
def qcr (E:Env) (fv:Value) (args:Array Value) (σ:CSt):Option Value:=
 match fv with
 | .func (.func g) ⟨[]⟩ ⟨[]⟩=>E.ext g args σ
 |_=>none
def qfq:List Value→Nat→Tr Value→Tr Value
 | [],_,t=>t
 |v::l,i,t=>qfq l (i+1) (t.set i v)
def qfu (fn:Func) (args:Array Value):CAct:={tm:=qfq args.toList 0 .nil,sz:=max args.size fn.ntmps,df:= [],tk:=false}
def qc8 (P:Program) (σ:CSt) (a:CAct):List ResultVar→Option (List Value)
 | []=>some []
 | .tmp t::l=>(qc8 P σ a l).map λr=>a.get t::r
 | .cell t ty::l=>match loadAt P σ ty (a.get t) with|some v=>(qc8 P σ a l).map λr=>v::r|none=>none
def qi9 (P:Program) (σ:CSt) (fn:Func) (a:CAct):Option Value:=
 match qc8 P σ a fn.results.toList with
 |some [v]=>some v
 |some l=>some (.tuple l.toArray)
 |none=>none
def qaz (ops:Array Oper) (a:CAct) (o:Oper):Option Bool:=
 match o.guard with
 |none=>some true
 |some (j,want)=>
  match(ops[j]?).bind (·.dst) with
  |some d=>if d<a.sz then(match a.get d with| .bool b=>some (b==want)| .chan none=>some false|_=>none) else none
  |none=>none
mutual
def qfm:Value→Value→Bool
 | .bool a, .bool b=>a==b
 | .int k a, .int l b=>k==l&&a==b
 | .float k a, .float l b=>k==l&&a==b
 | .complex k a b, .complex l c d=>k==l&&a==c&&b==d
 | .string ⟨⟨a⟩⟩, .string ⟨⟨b⟩⟩=>a==b
 | .pointer a, .pointer b=>a==b
 | .slice a n c, .slice b m d=>a==b&&n==m&&c==d
 | .map a, .map b=>a==b
 | .chan a, .chan b=>a==b
 | .func f ⟨a⟩ ⟨b⟩, .func g ⟨c⟩ ⟨d⟩=>decide (f=g)&&qkd a c&&qkd b d
 | .nilFunc, .nilFunc=>true
 | .iface t v, .iface u w=>t==u&&qfm v w
 | .nilIface, .nilIface=>true
 | .agg ⟨a⟩, .agg ⟨b⟩=>qkd a b
 | .tuple ⟨a⟩, .tuple ⟨b⟩=>qkd a b
 |_,_=>false
def qkd:List Value→List Value→Bool
 | [], []=>true
 |a::l,b::m=>qfm a b&&qkd l m
 |_,_=>false
end
def qab (P:Program) (o:Oper):Bool:=
 match o.op with
 | .alloc _| .box .. | .buildSlice .. | .store .. | .makeMap .. | .makeSlice .. | .mapUpdate .. | .insert .. | .range .. | .next .. | .defer _| .panic _=>true
 | .convert _ dst _=>match P.underlying dst with|some (.slice _)=>true|_=>false
 | .call c=>match c.callee with| .builtin .len| .builtin .cap| .builtin .min| .builtin .max| .builtin .real| .builtin .imag| .builtin .complex=>false|_=>true
 |_=>false
def qa9 (o:Oper):Bool:=
 match o.op with
 | .load .. | .lookup .. | .entry _| .convert .. | .slice .. | .call _=>true
 |_=>false
def looks (ops:Array Oper) (o:Oper):List Tmp:=
 (o.op.operands.toList.filterMap fun| .tmp t=>some t|_=>none)++(match o.guard with|some (j,_)=>((ops[j]?).bind (·.dst)).toList|none=> [])
def bef (ops:Array Oper):Array Nat:=CheckFast.beforeF ops
theorem bef_eq (ops:Array Oper):bef ops=Region.before ops:=CheckFast.beforeF_eq ops
def qa3 (b:Array Nat) (i j:Nat):Bool:=(b.getD i 0).testBit j
def qou (b:Array Nat) (i j:Nat):Bool:=qa3 b i j||qa3 b j i
def qyi (P:Program) (ops:Array Oper) (b:Array Nat):Nat→List Nat→List Nat→List Nat
 |0,_,acc=>acc.reverse
 |f+1,left,acc=>
  let ready:=left.filter λi=>left.all λj=> !qa3 b i j
  match ready.find? (λi=> !((ops[i]?).map (qab P)).getD false) with
  |some i=>qyi P ops b f (left.erase i) (i::acc)
  |none=>match ready with
   |i::_=>qyi P ops b f (left.erase i) (i::acc)
   | []=>acc.reverse
def qmw (P:Program) (ops:Array Oper):List Nat:=qyi P ops (bef ops) ops.size (List.range ops.size) []
def qal (ops:Array Oper) (i:Nat):Oper:=ops.getD i default
def qec (P:Program) (ops:Array Oper) (b:Array Nat):List Nat→List Nat→Bool
 | [],_=>true
 |i::rest,dn=>
  !rest.contains i&&decide (i<ops.size)&&rest.all (λj=> !qa3 b i j)&&dn.all (λe=> !qab P (qal ops e)||qa3 b i e)&&qec P ops b rest (i::dn)
def qk6 (P:Program) (ops:Array Oper) (l:List Nat):Bool:=
 let b:=bef ops
 (List.range ops.size).all (λi=>l.contains i)&&
 ops.toList.zipIdx.all (λp=>p.1.after.all λe=> !Region.binds .any e||decide (e.on<p.2))&&
 qec P ops b l []&&
 (List.range ops.size).all (λi=>(List.range ops.size).all λj=>
  i==j||(match(qal ops i).dst with|some d=> !((qal ops j).dst==some d)&&(!(looks ops (qal ops j)).contains d||qou b i j)|none=>true))
def qbu (P:Program) (ops:Array Oper) (b:Array Nat):List Nat→List Nat→Bool
 | [],_=>true
 |i::rest,dn=>
  !rest.contains i&&decide (i<ops.size)&&rest.all (λj=> !qa3 b i j)&&(qab P (qal ops i)||(match dn.find? (λe=>qab P (qal ops e)) with|some e=>qa3 b i e|none=>true))&&qbu P ops b rest (i::dn)
def qg8 (P:Program) (ops:Array Oper) (l:List Nat):List Nat:=l.filter λi=>qab P (qal ops i)
def exts (b:Array Nat):Nat→List Nat→List (List Nat)
 |0,_=> [[]]
 |f+1,left=>if left= [] then [[]] else(left.filter λi=>left.all λj=>j==i|| !qa3 b i j).flatMap λi=>(exts b f (left.erase i)).map (i::·)
def planE (P:Program) (ops:Array Oper) (b:Array Nat):Nat→List Nat→List Nat→List Nat→List Nat
 |0,_,_,acc=>acc.reverse
 |f+1,eo,left,acc=>
  match(left.filter λi=>left.all λj=> !qa3 b i j).find? (λi=> !qab P (qal ops i)) with
  |some i=>planE P ops b f eo (left.erase i) (i::acc)
  |none=>match eo with
   |i::eo=>planE P ops b f eo (left.erase i) (i::acc)
   | []=>acc.reverse
def eosOf (P:Program) (ops:Array Oper):List (List Nat):=exts (bef ops) ops.size (qg8 P ops (List.range ops.size))
def qe6 (P:Program) (ops:Array Oper):List (List Nat):=(eosOf P ops).map λeo=>planE P ops (bef ops) ops.size eo (List.range ops.size) []
def qow (P:Program) (ops:Array Oper) (l:List Nat):Bool:=
 let b:=bef ops
 (List.range ops.size).all (λi=>l.contains i)&&
 ops.toList.zipIdx.all (λp=>p.1.after.all λe=> !Region.binds .any e||decide (e.on<p.2))&&
 qbu P ops b l []&&
 (List.range ops.size).all (λi=>(List.range ops.size).all λj=>
  i==j||(match(qal ops i).dst with|some d=> !((qal ops j).dst==some d)&&(!(looks ops (qal ops j)).contains d||qou b i j)|none=>true))
def qjv (P:Program) (ops:Array Oper):Bool:=(qe6 P ops).all (qow P ops)&&((qe6 P ops).map (qg8 P ops)==eosOf P ops)&&decide (0<(qe6 P ops).length∧(qe6 P ops).length<50)
structure Rec where
 i:Nat
 a:CAct
 v:Value
def qgk (P:Program) (ops:Array Oper) (b:Array Nat) (σ:CSt) (e:Nat) (rs:List Rec):Bool:=
 rs.all λr=>qa3 b e r.i|| !qa9 (qal ops r.i)||(match cop P σ r.a.eval (qal ops r.i) with| .val v _=>qfm v r.v|_=>false)
def qh6 (ops:Array Oper) (a:CAct):CAct:=ops.toList.foldl (λa o=>a.put o.dst undef) a
section rules
variable {L:Type} (N:Lat L) (E:Env)
def qf6 (X:Task→CSt→(Out→CSt→L)→L) (fv:Value) (args:Array Value) (dk:Option (Option Value)) (σ:CSt) (Q:Out→CSt→L):L:=
 match fv with
 | .func (.func g) first captured=>X (.fn g (first++args++captured) dk) σ Q
 | .func (.yield l) first _=>if dk.isSome then N.no else X (.round l (first++args)) σ Q
 |_=>N.no
def qmc (n:Nat) (k:Nat→L):L:=if n≤1 then k 0 else N.all n k
def dgo (X:Task→CSt→(Out→CSt→L)→L) (ops:Array Oper) (b:Array Nat) (a0:CAct) (Q:Out→CSt→L):List Nat→CAct→CSt→List Rec→L
 | [],a,σ,_=>Q (.code .normal a) σ
 |i::rest,a,σ,rs=>
  let o:=qal ops i
  match qaz ops a o with
  |some true=>
   if qab E.P o then
    match cop E.P σ a.eval o with
    | .val v σ'=>if qgk E.P ops b σ' i rs then dgo X ops b a0 Q rest (a.put o.dst v) σ' rs else N.no
    | .call fv args=>
     match qcr E fv args σ with
     |some _=>N.no
     |none=>qf6 N X fv args none σ λout σ'=>
      match out with
      | .ret v _=>if qgk E.P ops b σ' i rs then dgo X ops b a0 Q rest (a.put o.dst v) σ' rs else N.no
      | .pan v=>Q (.code (.panic v) (qh6 ops a0)) σ'
      |_=>N.no
    |_=>N.no
   else
    match cop E.P σ a.eval o with
    | .val v _=>dgo X ops b a0 Q rest (a.put o.dst v) σ (⟨i,a,v⟩::rs)
    |_=>N.no
  |some false=>dgo X ops b a0 Q rest (a.put o.dst nope) σ rs
  |none=>N.no
def qgm:CEx→Option (Option Code)
 | .normal=>some none
 | .ret=>some (some .ret)
 | .exit i=>some (some (.exit i))
 | .goto l=>some (some (.goto l))
 | .panic _=>none
def qdc (σ:CSt):Option Nat→Bool
 |none=>true
 |some l=>match σ.get l with|some (.loop ..)=>true|_=>false
def F (X:Task→CSt→(Out→CSt→L)→L) (t:Task) (σ:CSt) (Q:Out→CSt→L):L:=
 match t with
 | .code x c a=>
  match c with
  | .skip| .label _=>Q (.code .normal a) σ
  | .region _ ops false=>X (.ops x ops (List.range ops.size) a) σ Q
  | .region _ ops true=>
   if qk6 E.P ops (qmw E.P ops) then dgo N E X ops (bef ops) a Q (qmw E.P ops) a σ []
   else if qjv E.P ops then qmc N (qe6 E.P ops).length λj=>dgo N E X ops (bef ops) a Q ((qe6 E.P ops).getD j []) a σ []
   else N.no
  | .seq c d=>X (.code x c a) σ λo σ'=>match o with| .code .normal a'=>X (.code x d a') σ' Q|o=>Q o σ'
  | .cond c t e=>match a.eval c with| .bool b=>X (.code x (if b then t else e) a) σ Q|_=>N.no
  | .block id c=>X (.code x c a) σ λo σ'=>match o with| .code (.exit i) a'=>if i=id then Q (.code .normal a') σ' else Q o σ'|o=>Q o σ'
  | .loop c=>X (.code x c a) σ λo σ'=>match o with| .code .normal a'=>X (.code x (.loop c) a') σ' Q|o=>Q o σ'
  | .rangeFunc f ps asg body=>
   if !qdc σ x.rnd then N.no else
   qf6 N X (a.eval f) #[.func (.yield σ.n) #[] #[]] none (σ.alloc (.loop .ready none x.f a.tm a.sz ps asg body)) λo σ'=>
    match o with
    | .ret _ _=>
     match σ'.get σ.n with
     |some (.loop st pend fn tm sz ps asg body)=>
      if st= .busy then N.no else
      match pend with
      |none=>Q (.code .normal a) (σ'.put σ.n (.loop .exhausted pend fn tm sz ps asg body))
      |some c=>X (.code x c a) (σ'.put σ.n (.loop .exhausted pend fn tm sz ps asg body)) Q
     |_=>N.no
    | .pan v=>Q (.code (.panic v) a) σ'
    |_=>N.no
  | .exit i=>Q (.code (.exit i) a) σ
  | .scope body=>X (.scope x body body a) σ Q
  | .goto l=>Q (.code (.goto l) a) σ
  | .ret=>Q (.code .ret a) σ
  | .refuse _=>N.no
 | .scope x body c a=>X (.code x c a) σ λo σ'=>
   match o with
   | .code (.goto l) a'=>match findLabel body l with|some rest=>X (.scope x body rest a') σ' Q|none=>Q o σ'
   |o=>Q o σ'
 | .ops x ops todo a=>
  match todo with
  | []=>Q (.code .normal a) σ
  |i::rest=>
   match ops[i]? with
   |none=>X (.ops x ops rest a) σ Q
   |some o=>
    match qaz ops a o with
    |some true=>
     match cop E.P σ a.eval o with
     | .val v σ'=>X (.ops x ops rest (a.put o.dst v)) σ' Q
     | .pick n k=>qmc N n λj=>X (.ops x ops rest (a.put o.dst (k j).1)) (k j).2 Q
     | .every p k=>N.every p λj=>X (.ops x ops rest (a.put o.dst (k j).1)) (k j).2 Q
     | .call fv args=>
      match qcr E fv args σ with
      |some v=>X (.ops x ops rest (a.put o.dst v)) σ Q
      |none=>qf6 N X fv args none σ λout σ'=>
       match out with
       | .ret v _=>X (.ops x ops rest (a.put o.dst v)) σ' Q
       | .pan v=>Q (.code (.panic v) a) σ'
       |_=>N.no
     | .panic v=>Q (.code (.panic v) a) σ
     | .defer d=>if x.rnd.isSome then N.no else X (.ops x ops rest ({a with df:=d::a.df}.put o.dst undef)) σ Q
     | .recover=>if x.rnd.isSome then N.no else
      match x.dk,a.tk with
      |some (some v),false=>X (.ops x ops rest ({a with tk:=true}.put o.dst v)) σ Q
      |_,_=>X (.ops x ops rest (a.put o.dst .nilIface)) σ Q
     | .fail=>N.no
    |some false=>X (.ops x ops rest (a.put o.dst nope)) σ Q
    |none=>N.no
 | .fn f args dk=>
  match qlf E f args σ with
  |some (j,i,off,n,row,e)=>
   N.every (λk=>decide (n≤k)&&decide (k<qa1)) λk=>X (.fn f (args.setIfInBounds j (.slice (some ⟨i,off,none⟩) n k)) dk) (σ.put i (.cells (qbg row off (E.P.cellsOf e) k) e false)) Q
  |none=>
  match(if dk.isNone then E.gam f else none:Option (Array Value→CSt→Option (Value×CSt))) with
  |some g=>match g args σ with|some (v,σ')=>Q (.ret v false) σ'|none=>N.no
  |none=>
   match E.P.funcs[f]? with
   |some fn=>
    match fn.body with
    |some c=>X (.code ⟨f,none,dk⟩ c (qfu fn args)) σ λo σ'=>
     match o with
     | .code .normal a| .code .ret a=>X (.unw ⟨f,none,dk⟩ a none) σ' Q
     | .code (.panic v) a=>X (.unw ⟨f,none,dk⟩ a (some v)) σ' Q
     |_=>N.no
    |none=>N.no
   |none=>N.no
 | .unw x a m=>
  match a.df with
  | []=>
   match m with
   |none=>match E.P.funcs[x.f]? with
    |some fn=>match qi9 E.P σ fn a with|some v=>Q (.ret v a.tk) σ|none=>N.no
    |none=>N.no
   |some v=>if x.dk.isSome then N.no else(match E.P.funcs[x.f]? with|some _=>Q (.pan v) σ|none=>N.no)
  |d::ds=>qf6 N X d.f d.args (some m) σ λo σ'=>
   match o with
   | .ret _ tk=>X (.unw x {a with df:=ds} (if tk then none else m)) σ' Q
   |_=>N.no
 | .round l args=>
  match σ.get l with
  |some (.loop st pend fn tm sz ps asg body)=>
   if args.size=ps.size then
    X (.code ⟨fn,some l,none⟩ asg {tm:=(ps.toList.zip args.toList).foldl (λt p=>if p.1<sz then t.set p.1 p.2 else t) tm,sz:=sz,df:= [],tk:=false}) σ λo σ1=>
     match o with
     | .code .normal a1=>
      match σ1.get l with
      |some (.loop .ready pend fn' tm' sz' ps' asg' body')=>
       X (.code ⟨fn,some l,none⟩ body a1) (σ1.put l (.loop .busy pend fn' tm' sz' ps' asg' body')) λo σ2=>
        match o with
        | .code e a2=>
         match qgm e with
         |some j=>
          match σ2.get l with
          |some (.loop st _ fn' tm' sz' ps' asg' body')=>Q (.ret (.bool j.isNone) false) (σ2.put l (.loop (if j.isNone then .ready else .done) j fn' tm' sz' ps' asg' body'))
          |_=>N.no
         |none=>match e with| .panic v=>if a2.df.isEmpty then(match E.P.funcs[fn]? with|some _=>Q (.pan v) σ2|none=>N.no) else N.no|_=>N.no
        |_=>N.no
      |_=>N.no
     |_=>N.no
   else N.no
  |_=>N.no
end rules
def qg7:Lat Prop:=⟨False,λn k=>∀i,i<n→k i,λp k=>∀i,p i=true→k i⟩
def latB:Lat Bool:=⟨false,λn k=>(List.range n).all k,λ_ _=>false⟩
def QMono (X:Task→CSt→(Out→CSt→Prop)→Prop):Prop:=∀t σ Q Q',(∀o s,Q o s→Q' o s)→X t σ Q→X t σ Q'
def W (E:Env) (t:Task) (σ:CSt) (Q:Out→CSt→Prop):Prop:=
 ∀X:Task→CSt→(Out→CSt→Prop)→Prop,QMono X→(∀t σ Q,F qg7 E X t σ Q→X t σ Q)→X t σ Q
def runB (E:Env):Nat→Task→CSt→(Out→CSt→Bool)→Bool
 |0=>λ_ _ _=>false
 |n+1=>F latB E (runB E n)
end Go.Sm
namespace Go.Sm
open Go
set_option maxRecDepth 100000
set_option maxHeartbeats 4000000
structure Place where
 b:Nat
 o:Nat
 e:Nat
 z:Nat
def Rho:=Nat→Option Place
def Rho.le (ρ ρ':Rho):Prop:=∀i p,ρ i=some p→ρ' i=some p
theorem Rho.le_refl (ρ:Rho):ρ.le ρ:=λ_ _ h=>h
theorem Rho.le_trans {a b c:Rho} (h:a.le b) (k:b.le c):a.le c:=λi p e=>k i p (h i p e)
def Rho.set (ρ:Rho) (i:Nat) (p:Place):Rho:=λj=>if j=i then some p else ρ j
inductive FnR (ρ:Rho):Fn→Fn→Prop
 |same (f:Fn) (h:∀l,f≠ .yield l):FnR ρ f f
 |yield (l:Nat) (p:Place) (h:ρ l=some p):FnR ρ (.yield l) (.yield p.b)
inductive VR (ρ:Rho):Value→Value→Prop
 |junk (v:Value):VR ρ (.tuple #[]) v
 |nope:VR ρ (.chan none) (.tuple #[])
 |plain (v:Value) (h:qae v=true):VR ρ v v
 |ptr (i off:Nat) (p:Place) (h:ρ i=some p):VR ρ (.pointer (some ⟨i,off,none⟩)) (.pointer (some ⟨p.b,p.o+off,none⟩))
 |slc (i off n c:Nat) (p:Place) (h:ρ i=some p) (hc:c≠qa1):VR ρ (.slice (some ⟨i,off,none⟩) n c) (.slice (some ⟨p.b,p.o+off,none⟩) n c)
 |slo (i off n c:Nat) (p:Place) (h:ρ i=some p) (hn:n≤c) (hc:off+c*p.z=p.e) (hb:c<qa1):VR ρ (.slice (some ⟨i,off,none⟩) n qa1) (.slice (some ⟨p.b,p.o+off,none⟩) n c)
 |sle (i off:Nat) (a:Addr) (p:Place) (h:ρ i=some p) (he:p.e≤off):VR ρ (.slice (some ⟨i,off,none⟩) 0 qa1) (.slice (some a) 0 0)
 |slz (i off:Nat) (a:Addr) (p:Place) (h:ρ i=some p):VR ρ (.slice (some ⟨i,off,none⟩) 0 0) (.slice (some a) 0 0)
 |map (i:Nat) (p:Place) (h:ρ i=some p):VR ρ (.map (some i)) (.map (some p.b))
 |func (f g:Fn) (as0 bs cs ds:Array Value) (hf:FnR ρ f g) (h1:as0.size=bs.size) (h2:∀(i:Nat) (u:i<as0.size) (v:i<bs.size),VR ρ as0[i] bs[i])
   (h3:cs.size=ds.size) (h4:∀(i:Nat) (u:i<cs.size) (v:i<ds.size),VR ρ cs[i] ds[i]):VR ρ (.func f as0 cs) (.func g bs ds)
 |iface (t:TypeId) (v w:Value) (h:VR ρ v w):VR ρ (.iface t v) (.iface t w)
 |agg (as0 bs:Array Value) (h1:as0.size=bs.size) (h2:∀(i:Nat) (u:i<as0.size) (v:i<bs.size),VR ρ as0[i] bs[i]):VR ρ (.agg as0) (.agg bs)
 |tuple (as0 bs:Array Value) (h1:as0.size=bs.size) (h2:∀(i:Nat) (u:i<as0.size) (v:i<bs.size),VR ρ as0[i] bs[i]):VR ρ (.tuple as0) (.tuple bs)
theorem FnR.mono {ρ ρ':Rho} (hr:ρ.le ρ') {f g:Fn} (h:FnR ρ f g):FnR ρ' f g:=by
 cases h with
 |same f h=>exact .same f h
 |yield l p h=>exact .yield l p (hr _ _ h)
theorem VR.mono {ρ ρ':Rho} (hr:ρ.le ρ') {v w:Value} (h:VR ρ v w):VR ρ' v w:=by
 induction h with
 |junk v=>exact .junk v
 |nope=>exact .nope
 |plain v h=>exact .plain v h
 |ptr i off p h=>exact .ptr i off p (hr _ _ h)
 |slc i off n c p h hc=>exact .slc i off n c p (hr _ _ h) hc
 |slo i off n c p h hn hc hb=>exact .slo i off n c p (hr _ _ h) hn hc hb
 |sle i off a p h he=>exact .sle i off a p (hr _ _ h) he
 |slz i off a p h=>exact .slz i off a p (hr _ _ h)
 |map i p h=>exact .map i p (hr _ _ h)
 |func f g as0 bs cs ds hf h1 _ h3 _ i1 i2=>exact .func f g as0 bs cs ds (hf.mono hr) h1 i1 h3 i2
 |iface t v w _ ih=>exact .iface t v w ih
 |agg as0 bs h1 _ ih=>exact .agg as0 bs h1 ih
 |tuple as0 bs h1 _ ih=>exact .tuple as0 bs h1 ih
def LR (ρ:Rho) (as0 bs:List Value):Prop:=as0.length=bs.length∧∀(i:Nat) (u:i<as0.length) (v:i<bs.length),VR ρ as0[i] bs[i]
def AsR (ρ:Rho) (as0 bs:Array Value):Prop:=as0.size=bs.size∧∀(i:Nat) (u:i<as0.size) (v:i<bs.size),VR ρ as0[i] bs[i]
theorem AsR.toList {ρ:Rho} {as0 bs:Array Value} (h:AsR ρ as0 bs):LR ρ as0.toList bs.toList:=⟨by simpa using h.1,λi u v=>by simpa using h.2 i (by simpa using u) (by simpa using v)⟩
theorem LR.toArray {ρ:Rho} {as0 bs:List Value} (h:LR ρ as0 bs):AsR ρ as0.toArray bs.toArray:=⟨by simpa using h.1,λi u v=>by simpa using h.2 i (by simpa using u) (by simpa using v)⟩
theorem LR.mono {ρ ρ':Rho} (hr:ρ.le ρ') {as0 bs:List Value} (h:LR ρ as0 bs):LR ρ' as0 bs:=⟨h.1,λi u v=>(h.2 i u v).mono hr⟩
theorem AsR.mono {ρ ρ':Rho} (hr:ρ.le ρ') {as0 bs:Array Value} (h:AsR ρ as0 bs):AsR ρ' as0 bs:=⟨h.1,λi u v=>(h.2 i u v).mono hr⟩
theorem LR.nil (ρ:Rho):LR ρ [] []:=⟨rfl,λi u=>absurd u (Nat.not_lt_zero i)⟩
theorem LR.cons {ρ:Rho} {a b:Value} {as0 bs:List Value} (h:VR ρ a b) (k:LR ρ as0 bs):LR ρ (a::as0) (b::bs):=
 ⟨by simp [k.1],λi u v=>by
  cases i with
  |zero=>exact h
  |succ i=>simpa using k.2 i (by simpa using u) (by simpa using v)⟩
theorem LR.head {ρ:Rho} {a b:Value} {as0 bs:List Value} (h:LR ρ (a::as0) (b::bs)):VR ρ a b:=h.2 0 (by simp) (by simp)
theorem LR.tail {ρ:Rho} {a b:Value} {as0 bs:List Value} (h:LR ρ (a::as0) (b::bs)):LR ρ as0 bs:=
 ⟨by simpa using h.1,λi u v=>h.2 (i+1) (Nat.succ_lt_succ u) (Nat.succ_lt_succ v)⟩
theorem LR.getElem? {ρ:Rho} {as0 bs:List Value} (h:LR ρ as0 bs) {i:Nat} {v:Value} (hv:as0[i]? =some v):∃v',bs[i]? =some v'∧VR ρ v v':=by
 obtain⟨u,rfl⟩:=List.getElem?_eq_some_iff.1 hv;have u':i<bs.length:=by have:=h.1;omega
 exact⟨bs[i],List.getElem?_eq_getElem u',h.2 i u u'⟩
theorem LR.of_getElem? {ρ:Rho} {as0 bs:List Value} (h1:as0.length=bs.length) (h:∀(i:Nat) (v:Value),as0[i]? =some v→∃v',bs[i]? =some v'∧VR ρ v v'):LR ρ as0 bs:=
 ⟨h1,λi u v=>by
  obtain⟨v',e,r⟩:=h i as0[i] (List.getElem?_eq_getElem u);rw [List.getElem?_eq_getElem v] at e;cases e
  exact r⟩
theorem LR.append {ρ:Rho} {as0 bs cs ds:List Value} (h:LR ρ as0 bs) (k:LR ρ cs ds):LR ρ (as0++cs) (bs++ds):=by
 refine LR.of_getElem? (by simp [h.1,k.1]) λi v hv=> ?_
 rw [List.getElem?_append] at hv⊢;by_cases u:i<as0.length
 ·rw [if_pos u] at hv;rw [if_pos (by have:=h.1;omega)]
  exact h.getElem? hv
 ·rw [if_neg u] at hv;rw [if_neg (by have:=h.1;omega),←h.1]
  exact k.getElem? hv
theorem LR.drop {ρ:Rho} {as0 bs:List Value} (h:LR ρ as0 bs) (n:Nat):LR ρ (as0.drop n) (bs.drop n):=
 LR.of_getElem? (by simp [h.1]) λi v hv=>by rw [List.getElem?_drop] at hv⊢;exact h.getElem? hv
theorem LR.take {ρ:Rho} {as0 bs:List Value} (h:LR ρ as0 bs) (n:Nat):LR ρ (as0.take n) (bs.take n):=
 LR.of_getElem? (by simp [h.1]) λi v hv=>by
  rw [List.getElem?_take] at hv⊢;by_cases u:i<n
  ·rw [if_pos u] at hv⊢;exact h.getElem? hv
  ·rw [if_neg u] at hv;cases hv
theorem VR.flat_eq {ρ:Rho} {v w:Value} (h:VR ρ v w) (hf:qae v=true):w=v:=by
 cases h<;>simp_all [qae]
theorem qk9 {cs:Array Value} (h:Sm.flat (.agg cs)=true) (i:Nat) (u:i<cs.size):qae cs[i]=true:=by
 simp only [Sm.flat,List.all_eq_true] at h;exact h _ (by simp)
theorem VR.flatA_eq {ρ:Rho} {v w:Value} (h:VR ρ v w) (hf:Sm.flat v=true):w=v:=by
 cases h with
 |agg as0 bs h1 h2=>
  have:as0=bs:=by
   apply Array.ext h1;intro i u u';exact((h2 i u u').flat_eq (qk9 hf i u)).symm
  rw [this]
 |plain v h=>rfl
 |iface t v w h=>simp [Sm.flat,qae] at hf
 |_=>simp [Sm.flat,qae] at hf
theorem VR.of_flat {ρ:Rho} {v:Value} (hf:Sm.flat v=true):VR ρ v v:=by
 cases v with
 |agg cs=>exact .agg _ _ rfl λi u _=> .plain _ (qk9 hf i u)
 |_=>exact .plain _ hf
theorem VR.int {ρ:Rho} {k:IntKind} {n:Int} {w:Value} (h:VR ρ (.int k n) w):w= .int k n:=h.flat_eq rfl
theorem VR.bool {ρ:Rho} {b:Bool} {w:Value} (h:VR ρ (.bool b) w):w= .bool b:=h.flat_eq rfl
theorem VR.string {ρ:Rho} {s:ByteArray} {w:Value} (h:VR ρ (.string s) w):w= .string s:=h.flat_eq rfl
theorem VR.cells {ρ:Rho} {v w:Value} (h:VR ρ v w) (hne:v≠ .tuple #[]):AsR ρ v.cells w.cells:=by
 have one:∀{a b:Value},VR ρ a b→AsR ρ #[a] #[b]:=λh=>⟨rfl,λi u _=>by simp at u;subst u;simpa using h⟩
 cases h with
 |junk=>exact absurd rfl hne
 |agg as0 bs h1 h2=>exact⟨h1,h2⟩
 |nope=>exact one .nope
 |plain v hf=>
  cases v with
  |agg=>simp [qae] at hf
  |_=>exact one (.plain _ hf)
 |ptr i off p h=>exact one (.ptr i off p h)
 |slc i off n c p h hc=>exact one (.slc i off n c p h hc)
 |slo i off n c p h hn hc hb=>exact one (.slo i off n c p h hn hc hb)
 |sle i off a p h he=>exact one (.sle i off a p h he)
 |slz i off a p h=>exact one (.slz i off a p h)
 |map i p h=>exact one (.map i p h)
 |func f g as0 bs cs ds hf h1 h2 h3 h4=>exact one (.func f g as0 bs cs ds hf h1 h2 h3 h4)
 |iface t v w h=>exact one (.iface t v w h)
 |tuple as0 bs h1 h2=>exact one (.tuple as0 bs h1 h2)
theorem VR.cellv {ρ:Rho} {v w:Value} (h:VR ρ v w) (hc:cellv v=true):w.oneCell'=true:=by
 cases h<;>simp_all [Sm.cellv,Value.oneCell']
 rename_i hf;cases v<;>simp_all [qae]
structure EntR (ρ:Rho) (e e':MapEntry):Prop where
 key:e'.key=e.key
 kf:qae e.key=true
 born:e'.born=e.born
 val:VR ρ e.val e'.val
def TmR (ρ:Rho) (tm:Tr Value) (sz:Nat) (tmps:Array Value):Prop:=tmps.size=sz∧∀i,VR ρ ((tm.get i).getD undef) (tmps.getD i undef)
def CObj.isRo:CObj→Bool
 | .cells _ _ ro=>ro
 |_=>false
theorem zad {fz:Nat×Nat} {n:Nat} {p:Prop} (h:fz.1=fz.2∨(n≤fz.1∧p)):∀k,k<n→¬(fz.1≤k∧k<fz.2):=λk hk=>by omega
def OR (P:Program) (ρ:Rho) (p:Place) (w:World):CObj→Prop
 | .cells c e true=>(p.z=P.cellsOf e∧c.length≤p.e)∧∀(k:Nat) (u:k<c.length),∃v',w.cell? ⟨p.b,p.o+k,none⟩=some v'∧VR ρ c[k] v'
 | .cells c e false=>p.z=P.cellsOf e∧∃(cc:Array Value) (fz:Nat×Nat),w.heap[p.b]? =some (.cells cc e fz)∧cc.size=p.o+p.e∧c.length≤p.e∧
   (∀(k:Nat) (u:k<c.length),∃v',cc[p.o+k]? =some v'∧VR ρ c[k] v')∧(fz.1=fz.2∨(cc.size≤fz.1∧P.underlying e=some (.int .u8)))
 | .map es n=>∃es':Array MapEntry,w.heap[p.b]? =some (.map es' n)∧es.size=es'.size∧∀(i:Nat) (u:i<es.size) (v:i<es'.size),EntR ρ es[i] es'[i]
 | .siter s n=>w.heap[p.b]? =some (.stringIter s n)∧p.o=0
 | .miter m since seen stp=>p.o=0∧∃m',w.heap[p.b]? =some (.mapIter m' since seen stp)∧(match m with|none=>m'=none|some i=>∃q,ρ i=some q∧m'=some q.b)
 | .loop st pend fn tm sz ps asg body=>∃r:Loop,w.heap[p.b]? =some (.loop r)∧r.state=st∧r.pending=pend∧r.fn=fn∧r.params=ps∧r.assign=asg∧r.body=body∧TmR ρ tm sz r.tmps
 | .dead=>True
def rw_ (σ:CSt) (i:Nat):Prop:=∃o,σ.get i=some o∧o.isRo=false∧o≠ .dead
def live (σ:CSt) (i:Nat):Prop:=∃o,σ.get i=some o∧o≠ .dead
structure R (P:Program) (ρ:Rho) (σ:CSt) (w:World):Prop where
 dom:∀i,σ.n≤i→ρ i=none
 tot:∀i,live σ i→∃p,ρ i=some p
 lt:∀i p,ρ i=some p→live σ i→p.b<w.heap.size
 obj:∀i o p,σ.get i=some o→ρ i=some p→OR P ρ p w o
 inj:∀i j p q,i≠j→ρ i=some p→ρ j=some q→rw_ σ i→live σ j→p.b≠q.b
 glob:∀g,g<qb8→∃p,ρ g=some p∧p.b=g∧p.o=0
 gn:qb8≤σ.n
structure Frm (ρ:Rho) (σ:CSt) (w:World) (ρ':Rho) (σ':CSt) (w':World):Prop where
 le:ρ.le ρ'
 os:w'.os=w.os
 tape:w'.tape=w.tape
 output:w'.output=w.output
 size:w.heap.size≤w'.heap.size
 keep:∀k,k<w.heap.size→(∀i p,ρ i=some p→rw_ σ i→p.b≠k)→w'.heap[k]? =w.heap[k]?
 fresh:∀i p,ρ' i=some p→rw_ σ' i→w.heap.size≤p.b∨∃j q,ρ j=some q∧rw_ σ j∧q.b=p.b
theorem Frm.refl (ρ:Rho) (σ:CSt) (w:World):Frm ρ σ w ρ σ w:=
 ⟨ρ.le_refl,rfl,rfl,rfl,Nat.le_refl _,λ_ _ _=>rfl,λi p h r=> .inr ⟨i,p,h,r,rfl⟩⟩
theorem Frm.trans {ρ₁ ρ₂ ρ₃:Rho} {σ₁ σ₂ σ₃:CSt} {w₁ w₂ w₃:World} (h:Frm ρ₁ σ₁ w₁ ρ₂ σ₂ w₂) (k:Frm ρ₂ σ₂ w₂ ρ₃ σ₃ w₃):Frm ρ₁ σ₁ w₁ ρ₃ σ₃ w₃ where
 le:=Rho.le_trans h.le k.le
 os:=k.os.trans h.os
 tape:=k.tape.trans h.tape
 output:=k.output.trans h.output
 size:=Nat.le_trans h.size k.size
 keep:=λb hb hn=>by
  rw [k.keep b (Nat.lt_of_lt_of_le hb h.size) λi p hp hr e=> ?_,h.keep b hb hn]
  rcases h.fresh i p hp hr with h1|⟨j,q,h1,h2,h3⟩
  ·omega
  ·exact hn j q h1 h2 (h3.trans e)
 fresh:=λi p hp hr=>by
  rcases k.fresh i p hp hr with h1|⟨j,q,h1,h2,h3⟩
  ·exact .inl (Nat.le_trans h.size h1)
  ·rcases h.fresh j q h1 h2 with h4|⟨j',q',h4,h5,h6⟩
   ·exact .inl (h3▸h4)
   ·exact .inr ⟨j',q',h4,h5,h6.trans h3⟩
structure Wr (w w':World) (b:Nat) (o:Obj):Prop where
 os:w'.os=w.os
 tape:w'.tape=w.tape
 output:w'.output=w.output
 size:w.heap.size≤w'.heap.size
 lt:b<w'.heap.size
 at_:∀k,w'.heap[k]? =if k=b then some o else w.heap[k]?
structure Sw (w w':World):Prop where
 os:w'.os=w.os
 tape:w'.tape=w.tape
 output:w'.output=w.output
 heap:w'.heap=w.heap
theorem Sw.refl (w:World):Sw w w:=⟨rfl,rfl,rfl,rfl⟩
theorem OR.congr {P:Program} {ρ:Rho} {p:Place} {w w':World} {o:CObj} (h:OR P ρ p w o) (e:w'.heap[p.b]? =w.heap[p.b]?):OR P ρ p w' o:=by
 cases o with
 |cells c t ro=>
  cases ro with
  |true=>simp only [OR,World.cell?] at h⊢;rw [e];exact h
  |false=>simp only [OR] at h⊢;rw [e];exact h
 |dead=>trivial
 |_=>simp only [OR] at h⊢;rw [e];exact h
theorem TmR.mono {ρ ρ':Rho} (hr:ρ.le ρ') {tm:Tr Value} {sz:Nat} {tmps:Array Value} (h:TmR ρ tm sz tmps):TmR ρ' tm sz tmps:=⟨h.1,λi=>(h.2 i).mono hr⟩
theorem OR.mono {P:Program} {ρ ρ':Rho} (hr:ρ.le ρ') {p:Place} {w:World} {o:CObj} (h:OR P ρ p w o):OR P ρ' p w o:=by
 cases o with
 |cells c t ro=>
  cases ro with
  |true=>exact⟨h.1,λk u=>let ⟨v',a,b⟩:=h.2 k u;⟨v',a,b.mono hr⟩⟩
  |false=>obtain⟨hz,cc,fz,h1,h2,h3,h4,h5⟩:=h;exact⟨hz,cc,fz,h1,h2,h3,λk u=>let ⟨v',a,b⟩:=h4 k u;⟨v',a,b.mono hr⟩,h5⟩
 |map es n=>obtain⟨es',h1,h2,h3⟩:=h;exact⟨es',h1,h2,λi u v=>⟨(h3 i u v).key,(h3 i u v).kf,(h3 i u v).born,(h3 i u v).val.mono hr⟩⟩
 |siter s n=>exact h
 |miter m since seen stp=>
  obtain⟨h0,m',h1,h2⟩:=h;refine⟨h0,m',h1, ?_⟩;cases m with
  |none=>exact h2
  |some i=>obtain⟨q,h3,h4⟩:=h2;exact⟨q,hr _ _ h3,h4⟩
 |loop st pend fn tm sz ps asg body=>obtain⟨r,h1,h2,h3,h4,h5,h6,h7,h8⟩:=h;exact⟨r,h1,h2,h3,h4,h5,h6,h7,h8.mono hr⟩
 |dead=>trivial
theorem qcq {σ:CSt} {i:Nat} (h:rw_ σ i):live σ i:=let ⟨o,a,_,b⟩:=h;⟨o,a,b⟩
theorem qv8 {σ:CSt} {i j:Nat} {o:CObj}:rw_ (σ.put i o) j↔if j=i then o.isRo=false∧o≠ .dead else rw_ σ j:=by
 unfold rw_;simp only [CSt.get_put];by_cases h:j=i<;>simp [h]
theorem qo1 {σ:CSt} {i j:Nat} {o:CObj}:live (σ.put i o) j↔if j=i then o≠ .dead else live σ j:=by
 unfold live;simp only [CSt.get_put];by_cases h:j=i<;>simp [h]
theorem qiv {σ:CSt} {j:Nat} {o:CObj}:rw_ (σ.alloc o) j↔if j=σ.n then o.isRo=false∧o≠ .dead else rw_ σ j:=by
 unfold rw_;simp only [CSt.get_alloc];by_cases h:j=σ.n<;>simp [h]
theorem qfb {σ:CSt} {j:Nat} {o:CObj}:live (σ.alloc o) j↔if j=σ.n then o≠ .dead else live σ j:=by
 unfold live;simp only [CSt.get_alloc];by_cases h:j=σ.n<;>simp [h]
section keep
variable {P:Program} {ρ:Rho} {σ:CSt} {w w':World}
theorem R.same (h:R P ρ σ w) (s:Sw w w'):R P ρ σ w'∧Frm ρ σ w ρ σ w':=by
 refine⟨⟨h.dom,h.tot,λi p a b=>by rw [s.heap];exact h.lt i p a b,λi o p a b=>(h.obj i o p a b).congr (by rw [s.heap]),h.inj,h.glob,h.gn⟩, ?_⟩
 exact⟨ρ.le_refl,s.os,s.tape,s.output,by rw [s.heap];exact Nat.le_refl _,λk _ _=>by rw [s.heap],λi p a b=> .inr ⟨i,p,a,b,rfl⟩⟩
theorem R.write (h:R P ρ σ w) {i:Nat} {p:Place} (hp:ρ i=some p) (hrw:rw_ σ i) {o:CObj} {o':Obj} (wr:Wr w w' p.b o') (hro:o.isRo=false) (hd:o≠ .dead)
  (ho:OR P ρ p w' o):R P ρ (σ.put i o) w'∧Frm ρ σ w ρ (σ.put i o) w':=by
 have hlive:∀j,live (σ.put i o) j→live σ j:=λj hj=>by
  rw [qo1] at hj;by_cases e:j=i
  ·rw [e];exact qcq hrw
  ·rwa [if_neg e] at hj
 have hrw':∀j,rw_ (σ.put i o) j→rw_ σ j:=λj hj=>by
  rw [qv8] at hj;by_cases e:j=i
  ·rw [e];exact hrw
  ·rwa [if_neg e] at hj
 refine⟨⟨h.dom,λj hj=>h.tot j (hlive j hj),λj q hq hj=>Nat.lt_of_lt_of_le (h.lt j q hq (hlive j hj)) wr.size, ?_,λa b p q hne ha hb hra hlb=>h.inj a b p q hne ha hb (hrw' a hra) (hlive b hlb),h.glob,h.gn⟩, ?_⟩
 ·intro j oj q hj hq;rw [CSt.get_put] at hj;by_cases e:j=i
  ·rw [if_pos e] at hj;cases hj;subst e;rw [hp] at hq;cases hq;exact ho
  ·rw [if_neg e] at hj;by_cases hdj:oj= .dead
   ·subst hdj;trivial
   ·refine(h.obj j oj q hj hq).congr ?_;rw [wr.at_,if_neg];exact λeb=>h.inj i j p q (Ne.symm e) hp hq hrw ⟨oj,hj,hdj⟩ eb.symm
 ·refine⟨ρ.le_refl,wr.os,wr.tape,wr.output,wr.size,λk hk hn=> ?_,λj q hq hj=> .inr ⟨j,q,hq,hrw' j hj,rfl⟩⟩
  rw [wr.at_,if_neg];exact λe=>hn i p hp hrw e.symm
theorem R.alloc (h:R P ρ σ w) {p:Place} {o:CObj} {o':Obj} (wr:Wr w w' p.b o') (hb:w.heap.size≤p.b) (ho:OR P (ρ.set σ.n p) p w' o):
  R P (ρ.set σ.n p) (σ.alloc o) w'∧Frm ρ σ w (ρ.set σ.n p) (σ.alloc o) w':=by
 have hg:=h.gn;have hle:ρ.le (ρ.set σ.n p):=λi q hq=>by
  unfold Rho.set;rw [if_neg];exact hq;intro e;rw [e,h.dom _ (Nat.le_refl _)] at hq;cases hq
 have hset:∀j,j≠σ.n→(ρ.set σ.n p) j=ρ j:=λj hj=>by unfold Rho.set;rw [if_neg hj]
 have hself:(ρ.set σ.n p) σ.n=some p:=by unfold Rho.set;rw [if_pos rfl]
 refine⟨⟨λi hi=> ?_,λi hi=> ?_,λi q hq hi=> ?_,λi oi q hi hq=> ?_,λi j q r hne hq hr hri hlj=> ?_,λg hgl=> ?_,Nat.le_succ_of_le hg⟩, ?_⟩
 ·rw [CSt.n_alloc] at hi;rw [hset i (by omega)];exact h.dom i (by omega)
 ·by_cases e:i=σ.n
  ·rw [e];exact⟨p,hself⟩
  ·rw [qfb,if_neg e] at hi;rw [hset i e];exact h.tot i hi
 ·by_cases e:i=σ.n
  ·subst e;rw [hself] at hq;cases hq;exact wr.lt
  ·rw [qfb,if_neg e] at hi;rw [hset i e] at hq;exact Nat.lt_of_lt_of_le (h.lt i q hq hi) wr.size
 ·rw [CSt.get_alloc] at hi;by_cases e:i=σ.n
  ·rw [if_pos e] at hi;cases hi;subst e;rw [hself] at hq;cases hq;exact ho
  ·rw [if_neg e] at hi;rw [hset i e] at hq;by_cases hd:oi= .dead
   ·subst hd;trivial
   ·refine((h.obj i oi q hi hq).congr ?_).mono hle;rw [wr.at_,if_neg];have:=h.lt i q hq ⟨oi,hi,hd⟩;omega
 ·by_cases e:i=σ.n
  ·subst e;rw [hself] at hq;cases hq;have hj:j≠σ.n:=Ne.symm hne;rw [qfb,if_neg hj] at hlj;rw [hset j hj] at hr;have:=h.lt j r hr hlj;omega
  ·rw [hset i e] at hq;rw [qiv,if_neg e] at hri;by_cases e':j=σ.n
   ·subst e';rw [hself] at hr;cases hr;have:=h.lt i q hq (qcq hri);omega
   ·rw [hset j e'] at hr;rw [qfb,if_neg e'] at hlj;exact h.inj i j q r hne hq hr hri hlj
 ·obtain⟨q,h1,h2⟩:=h.glob g hgl;exact⟨q,by rw [hset g (by omega)];exact h1,h2⟩
 ·refine⟨hle,wr.os,wr.tape,wr.output,wr.size,λk hk _=> ?_,λi q hq hi=> ?_⟩
  ·rw [wr.at_,if_neg (by omega)]
  ·by_cases e:i=σ.n
   ·subst e;rw [hself] at hq;cases hq;exact .inl hb
   ·rw [hset i e] at hq;rw [qiv,if_neg e] at hi;exact .inr ⟨i,q,hq,hi,rfl⟩
theorem R.kill (h:R P ρ σ w) (i:Nat):R P ρ (σ.put i .dead) w∧Frm ρ σ w ρ (σ.put i .dead) w:=by
 have hlive:∀j,live (σ.put i .dead) j→live σ j∧j≠i:=λj hj=>by
  rw [qo1] at hj;by_cases e:j=i
  ·rw [if_pos e] at hj;exact absurd rfl hj
  ·rw [if_neg e] at hj;exact⟨hj,e⟩
 have hrw':∀j,rw_ (σ.put i .dead) j→rw_ σ j:=λj hj=>by
  rw [qv8] at hj;by_cases e:j=i
  ·rw [if_pos e] at hj;exact absurd rfl hj.2
  ·rwa [if_neg e] at hj
 refine⟨⟨h.dom,λj hj=>h.tot j (hlive j hj).1,λj q hq hj=>h.lt j q hq (hlive j hj).1,λj oj q hj hq=> ?_,λa b p q hne ha hb hra hlb=>h.inj a b p q hne ha hb (hrw' a hra) (hlive b hlb).1,h.glob,h.gn⟩, ?_⟩
 ·rw [CSt.get_put] at hj;by_cases e:j=i
  ·rw [if_pos e] at hj;cases hj;trivial
  ·rw [if_neg e] at hj;exact h.obj j oj q hj hq
 ·exact⟨ρ.le_refl,rfl,rfl,rfl,Nat.le_refl _,λ_ _ _=>rfl,λj q hq hj=> .inr ⟨j,q,hq,hrw' j hj,rfl⟩⟩
theorem R.move (h:R P ρ σ w) {i:Nat} {q:Place} (hq:ρ i=some q) (hrw:rw_ σ i) {p:Place} (hpb:p.b=q.b) {o:CObj} {o':Obj} (wr:Wr w w' p.b o')
  (ho:OR P (ρ.set σ.n p) p w' o):R P (ρ.set σ.n p) ((σ.put i .dead).alloc o) w'∧Frm ρ σ w (ρ.set σ.n p) ((σ.put i .dead).alloc o) w':=by
 have hg:=h.gn;have hin:i≠σ.n:=λe=>by rw [e,h.dom _ (Nat.le_refl _)] at hq;cases hq
 have hle:ρ.le (ρ.set σ.n p):=λj r hr=>by
  unfold Rho.set;rw [if_neg];exact hr;intro e;rw [e,h.dom _ (Nat.le_refl _)] at hr;cases hr
 have hset:∀j,j≠σ.n→(ρ.set σ.n p) j=ρ j:=λj hj=>by unfold Rho.set;rw [if_neg hj]
 have hself:(ρ.set σ.n p) σ.n=some p:=by unfold Rho.set;rw [if_pos rfl]
 have hn:(σ.put i .dead).n=σ.n:=rfl;have hlive:∀j,j≠σ.n→live ((σ.put i .dead).alloc o) j→live σ j∧j≠i:=λj hj hl=>by
  rw [qfb,hn,if_neg hj,qo1] at hl;by_cases e:j=i
  ·rw [if_pos e] at hl;exact absurd rfl hl
  ·rw [if_neg e] at hl;exact⟨hl,e⟩
 have hrwj:∀j,j≠σ.n→rw_ ((σ.put i .dead).alloc o) j→rw_ σ j∧j≠i:=λj hj hl=>by
  rw [qiv,hn,if_neg hj,qv8] at hl;by_cases e:j=i
  ·rw [if_pos e] at hl;exact absurd rfl hl.2
  ·rw [if_neg e] at hl;exact⟨hl,e⟩
 have hbq:q.b<w.heap.size:=h.lt i q hq (qcq hrw);refine⟨⟨λj hj=> ?_,λj hj=> ?_,λj r hr hj=> ?_,λj oj r hj hr=> ?_,λa b r s hne hr hs hra hlb=> ?_,λg hgl=> ?_,Nat.le_succ_of_le hg⟩, ?_⟩
 ·rw [CSt.n_alloc,hn] at hj;rw [hset j (by omega)];exact h.dom j (by omega)
 ·by_cases e:j=σ.n
  ·rw [e];exact⟨p,hself⟩
  ·rw [hset j e];exact h.tot j (hlive j e hj).1
 ·by_cases e:j=σ.n
  ·subst e;rw [hself] at hr;cases hr;exact wr.lt
  ·rw [hset j e] at hr;exact Nat.lt_of_lt_of_le (h.lt j r hr (hlive j e hj).1) wr.size
 ·rw [CSt.get_alloc,hn,CSt.get_put] at hj;by_cases e:j=σ.n
  ·rw [if_pos e] at hj;cases hj;subst e;rw [hself] at hr;cases hr;exact ho
  ·rw [if_neg e] at hj;rw [hset j e] at hr;by_cases e':j=i
   ·rw [if_pos e'] at hj;cases hj;trivial
   ·rw [if_neg e'] at hj;by_cases hd:oj= .dead
    ·subst hd;trivial
    ·refine((h.obj j oj r hj hr).congr ?_).mono hle;rw [wr.at_,if_neg];intro eb;exact h.inj i j q r (Ne.symm e') hq hr hrw ⟨oj,hj,hd⟩ (by omega)
 ·by_cases e:a=σ.n
  ·subst e;rw [hself] at hr;cases hr;have hb':b≠σ.n:=Ne.symm hne;obtain⟨h1,h2⟩:=hlive b hb' hlb;rw [hset b hb'] at hs;rw [hpb];exact h.inj i b q s (Ne.symm h2) hq hs hrw h1
  ·obtain⟨h1,h2⟩:=hrwj a e hra;rw [hset a e] at hr;by_cases e':b=σ.n
   ·subst e';rw [hself] at hs;cases hs;rw [hpb];exact h.inj a i r q h2 hr hq h1 (qcq hrw)
   ·rw [hset b e'] at hs;exact h.inj a b r s hne hr hs h1 (hlive b e' hlb).1
 ·obtain⟨r,h1,h2⟩:=h.glob g hgl;exact⟨r,by rw [hset g (by omega)];exact h1,h2⟩
 ·refine⟨hle,wr.os,wr.tape,wr.output,wr.size,λk hk hnk=> ?_,λj r hr hj=> ?_⟩
  ·rw [wr.at_,if_neg];intro e;exact hnk i q hq hrw (by omega)
  ·by_cases e:j=σ.n
   ·subst e;rw [hself] at hr;cases hr;exact .inr ⟨i,q,hq,hrw,hpb.symm⟩
   ·rw [hset j e] at hr;exact .inr ⟨j,r,hr,(hrwj j e hj).1,rfl⟩
end keep
theorem Addr.add_plain (b o j:Nat):(⟨b,o,none⟩:Addr).add j=⟨b,o+j,none⟩:=by unfold Addr.add;split<;>simp_all
theorem qcn {w:World} {b:Nat} {cc:Array Value} {e:TypeId} {fz:Nat×Nat} (h:w.heap[b]? =some (.cells cc e fz)) (k:Nat):w.cell? ⟨b,k,none⟩=cc[k]? :=by
 simp [World.cell?,h]
theorem Wr.push (w:World) (o:Obj):Wr w {w with heap:=w.heap.push o} w.heap.size o:=
 ⟨rfl,rfl,rfl,by simp,by simp,λk=>by rw [Array.getElem?_push]⟩
theorem Wr.of_same {w w' w'':World} {b:Nat} {o:Obj} (s:Sw w w') (h:Wr w' w'' b o):Wr w w'' b o:=
 ⟨h.os.trans s.os,h.tape.trans s.tape,h.output.trans s.output,by rw [←s.heap];exact h.size,h.lt,λk=>by rw [h.at_,s.heap]⟩
theorem Wr.trans {w w' w'':World} {b:Nat} {o o':Obj} (s:Wr w w' b o) (h:Wr w' w'' b o'):Wr w w'' b o':=
 ⟨h.os.trans s.os,h.tape.trans s.tape,h.output.trans s.output,Nat.le_trans s.size h.size,h.lt,λk=>by rw [h.at_,s.at_];by_cases e:k=b<;>simp [e]⟩
theorem Wr.id {w:World} {b:Nat} {o:Obj} (h:w.heap[b]? =some o):Wr w w b o:=
 ⟨rfl,rfl,rfl,Nat.le_refl _,(Array.getElem?_eq_some_iff.1 h).1,λk=>by by_cases e:k=b<;>simp [e,h]⟩
theorem Wr.set (w:World) {b:Nat} (o:Obj) (h:b<w.heap.size):Wr w {w with heap:=w.heap.setIfInBounds b o} b o:=
 ⟨rfl,rfl,rfl,by simp,by simpa using h,λk=>by
  rw [Array.getElem?_setIfInBounds];by_cases e:b=k
  ·subst e;simp [h]
  ·rw [if_neg e,if_neg (Ne.symm e)]⟩
theorem Wr.cell {w:World} {b k:Nat} {cc:Array Value} {e:TypeId} {fz:Nat×Nat} (h:w.heap[b]? =some (.cells cc e fz)) (v:Value):
  Wr w (w.setCell ⟨b,k,none⟩ v) b (.cells (cc.setIfInBounds k v) e fz):=
 ⟨rfl,rfl,rfl,by simp [World.setCell],by simpa [World.setCell] using(Array.getElem?_eq_some_iff.1 h).1,λj=>by
  simp only [World.setCell,Array.getElem?_modify];by_cases e:b=j
  ·subst e;simp [h]
  ·rw [if_neg e,if_neg (Ne.symm e)]⟩
theorem qdw (P:Program) (b o:Nat) (e:TypeId) (fz:Nat×Nat):∀(vs:List Value) (i:Nat) (cc:Array Value) (w:World),w.heap[b]? =some (.cells cc e fz)→
  (∀k,k<cc.size→¬(fz.1≤k∧k<fz.2))→o+i+vs.length≤cc.size→(∀v∈vs,v.oneCell'=true)→
  ∃w',(storeCells ⟨b,o,none⟩ vs i).run P w= .ok () w'∧Wr w w' b (.cells (cc.toList.take (o+i)++vs++cc.toList.drop (o+i+vs.length)).toArray e fz)
 | [],i,cc,w,hb,_,_,_=>⟨w,rfl,by simpa using Wr.id hb⟩
 |v::r,i,cc,w,hb,hf,hl,h1=>by
  have hi:o+i<cc.size:=by simp at hl;omega
  have hcell:w.cell? ⟨b,o+i,none⟩=some cc[o+i]:=by rw [qcn hb];simp [hi]
  have hfro:w.frozen? ⟨b,o+i,none⟩=false:=by
   have:=hf _ hi;simp only [World.frozen?,hb,Bool.and_eq_false_iff,decide_eq_false_iff_not];omega
  have hst:(store ((⟨b,o,none⟩:Addr).add i) v).run P w= .ok () (w.setCell ⟨b,o+i,none⟩ v):=by
   rw [Addr.add_plain,run_store P w _ v _ (h1 v (by simp)),hcell]
   simp [hfro]
  have hw:=Wr.cell (k:=o+i) hb v;have hb':=hw.at_ b;rw [if_pos rfl] at hb';obtain⟨w',hr,hw'⟩:=qdw P b o e fz r (i+1) (cc.setIfInBounds (o+i) v) (w.setCell ⟨b,o+i,none⟩ v) hb' (by simpa using hf) (by simp at hl⊢;omega) (λx hx=>h1 x (by simp [hx]))
  refine⟨w',by simp only [storeCells,Sem.run_bind,hst,Result.andThen_ok,hr], ?_⟩
  have hh:=hw.trans hw';refine Eq.mp ?_ hh
  congr 3
  apply List.ext_getElem?;intro k;simp only [List.getElem?_append,List.getElem?_take,List.getElem?_drop,List.length_take,List.length_append,List.length_cons,Array.toList_setIfInBounds,List.length_set,Array.length_toList,List.getElem?_set];rcases Nat.lt_trichotomy k (o+i) with hk|hk|hk
  ·have a1:k<o+(i+1):=by omega
   have a2:min (o+(i+1)) cc.size=o+(i+1):=by omega
   have a3:min (o+i) cc.size=o+i:=by omega
   simp only [a2,a3];rw [if_pos (by omega),if_pos a1,if_pos a1,if_neg (by omega),if_pos (by omega),if_pos hk,if_pos hk]
  ·have a2:min (o+(i+1)) cc.size=o+(i+1):=by omega
   have a3:min (o+i) cc.size=o+i:=by omega
   simp only [a2,a3];subst hk;simp;rw [if_pos (by omega),if_pos hi]
  ·have a2:min (o+(i+1)) cc.size=o+(i+1):=by omega
   have a3:min (o+i) cc.size=o+i:=by omega
   simp only [a2,a3];by_cases h2:k<o+(i+1)+r.length
   ·rw [if_pos h2,if_neg (by omega),if_pos (by omega),if_neg (by omega)]
    rw [show k-(o+i)=(k-(o+(i+1)))+1 by omega]
    simp
   ·rw [if_neg h2,if_neg (by omega),if_neg (by omega)]
    congr 1
    omega
theorem OR.cell {P:Program} {ρ:Rho} {p:Place} {w:World} {c:List Value} {e:TypeId} {ro:Bool} (h:OR P ρ p w (.cells c e ro)) {k:Nat} {v:Value} (hv:c[k]? =some v):
  ∃v',w.cell? ⟨p.b,p.o+k,none⟩=some v'∧VR ρ v v':=by
 obtain⟨u,rfl⟩:=List.getElem?_eq_some_iff.1 hv;cases ro with
 |true=>exact h.2 k u
 |false=>
  obtain⟨_,cc,fz,h1,h2,h3,h4,h5⟩:=h;obtain⟨v',a,b⟩:=h4 k u;exact⟨v',by rw [qcn h1];exact a,b⟩
theorem OR.cellsRun {P:Program} {ρ:Rho} {p:Place} {w:World} {c:List Value} {e:TypeId} {ro:Bool} (h:OR P ρ p w (.cells c e ro)) {off n:Nat} {l:List Value} (hl:ld c off n=some l):
  ∃l':List Value,LR ρ l l'∧l'.length=n∧∀(j:Nat) (v:Value),l'[j]? =some v→w.cell? ((⟨p.b,p.o+off,none⟩:Addr).add j)=some v:=by
 unfold ld at hl;split at hl
 ·rename_i hle;cases hl;have hex:∀j,j<n→∃v',w.cell? ⟨p.b,p.o+(off+j),none⟩=some v'∧VR ρ (c.getD (off+j) undef) v':=λj hj=>by
   have:c[off+j]? =some (c.getD (off+j) undef):=by rw [List.getD_eq_getElem?_getD,List.getElem?_eq_getElem (by omega)];rfl
   exact h.cell this
  refine⟨(List.range n).map λj=>(w.cell? ⟨p.b,p.o+(off+j),none⟩).getD undef,⟨by simp;omega,λj u v=> ?_⟩,by simp,λj v hv=> ?_⟩
  ·simp only [List.length_map,List.length_range] at v;obtain⟨v',h1,h2⟩:=hex j v;simp only [List.getElem_map,List.getElem_range,h1,Option.getD_some,List.getElem_take,List.getElem_drop];rw [List.getD_eq_getElem?_getD,List.getElem?_eq_getElem (by omega)] at h2
   exact h2
  ·simp only [List.getElem?_map,Option.map_eq_some_iff,List.getElem?_range'] at hv;obtain⟨j',h1,rfl⟩:=hv;obtain⟨hj,rfl⟩:=List.getElem?_eq_some_iff.1 h1;simp only [List.length_range] at hj;obtain⟨v',h2,_⟩:=hex j hj;simp only [List.getElem_range,h2,Option.getD_some];rw [Addr.add_plain,Nat.add_assoc];exact h2
 ·cases hl
theorem qe0 {σ:CSt} {i:Nat} {c:List Value} {e:TypeId} {ro:Bool} (h:σ.cells i=some (c,e,ro)):σ.get i=some (.cells c e ro):=by
 unfold CSt.cells at h;split at h
 ·rename_i h';cases h;exact h'
 ·cases h
theorem qo0 {σ:CSt} {i:Nat} {es:Array MapEntry} {k:Nat} (h:σ.maps i=some (es,k)):σ.get i=some (.map es k):=by
 unfold CSt.maps at h;split at h
 ·rename_i h';cases h;exact h'
 ·cases h
theorem R.store {P:Program} {ρ:Rho} {σ:CSt} {w:World} (h:R P ρ σ w) {i:Nat} {p:Place} (hp:ρ i=some p) {c c':List Value} {e:TypeId} (hg:σ.get i=some (.cells c e false))
  {off:Nat} {vs vs':List Value} (hst:st c off vs=some c') (hv:LR ρ vs vs') (h1:∀v∈vs',v.oneCell'=true):
  ∃w',(storeCells ⟨p.b,p.o+off,none⟩ vs' 0).run P w= .ok () w'∧R P ρ (σ.put i (.cells c' e false)) w'∧Frm ρ σ w ρ (σ.put i (.cells c' e false)) w':=by
 unfold st at hst;split at hst
 ·rename_i hle;cases hst;have ho:=h.obj i _ p hg hp;obtain⟨hz,cc,fz,b1,b2,b3,b4,b5⟩:=ho;have hlen:=hv.1;obtain⟨w',hr,hw⟩:=qdw P p.b (p.o+off) e fz vs' 0 cc w b1 (zad b5) (by omega) h1
  refine⟨w',hr,h.write hp ⟨_,hg,rfl,by simp⟩ hw rfl (by simp) ?_⟩
  have hb:=hw.at_ p.b;rw [if_pos rfl] at hb;refine⟨hz,_,fz,hb, ?_, ?_,λk u=> ?_, ?_⟩
  ·simp;omega
  ·simp;omega
  ·have hc:LR ρ c ((cc.toList.drop p.o).take c.length):=LR.of_getElem? (by simp;omega) λk v hk=>by
    obtain⟨u,rfl⟩:=List.getElem?_eq_some_iff.1 hk;obtain⟨v',x1,x2⟩:=b4 k u;refine⟨v', ?_,x2⟩;rw [List.getElem?_take,if_pos u,List.getElem?_drop];simpa using x1
   have hn:LR ρ (c.take off++vs++c.drop (off+vs.length)) (((cc.toList.drop p.o).take c.length).take off++vs'++((cc.toList.drop p.o).take c.length).drop (off+vs.length)):=((hc.take off).append hv).append (hc.drop _);obtain⟨v',x1,x2⟩:=hn.getElem? (List.getElem?_eq_getElem u);refine⟨v', ?_,x2⟩;rw [←x1];simp only [List.length_append,List.length_take,List.length_drop] at u;simp only [List.getElem?_toArray,List.getElem?_append,List.getElem?_take,List.getElem?_drop,List.length_take,List.length_append,List.length_drop,Array.length_toList,Nat.add_zero];have a1:min (p.o+off) cc.size=p.o+off:=by omega
   have a2:min off (min c.length (cc.size-p.o))=off:=by omega
   simp only [a1,a2];by_cases k1:k<off
   ·rw [if_pos (by omega),if_pos (by omega),if_pos (by omega),if_pos (by omega),if_pos k1,if_pos k1,if_pos (by omega)]
   ·by_cases k2:k<off+vs'.length
    ·rw [if_pos (by omega),if_neg (by omega),if_pos (by omega),if_neg k1]
     congr 1;omega
    ·rw [if_neg (by omega),if_neg (by omega),if_pos (by omega)]
     congr 1;omega
  ·exact b5.imp id λh=>⟨by have:=h.1;simp;omega,h.2⟩
 ·cases hst
def qe7 (P:Program) (ρ:Rho) (σ:CSt) (w:World) (r:Result Next) (v:Value) (σ':CSt):Prop:=
 ∃(n:Next) (v':Value) (ρ':Rho) (w':World),r= .ok n w'∧(n= .value v'∨(n= .skip∧v'=undef))∧R P ρ' σ' w'∧VR ρ' v v'∧Frm ρ σ w ρ' σ' w'
section
variable {P:Program} {ρ:Rho} {σ:CSt} {w:World}
theorem qe7.same (h:R P ρ σ w) {r:Result Next} {v v':Value} (hr:r= .ok (.value v') w) (hv:VR ρ v v'):qe7 P ρ σ w r v σ:=
 ⟨_,v',ρ,w,hr, .inl rfl,h,hv,Frm.refl ..⟩
theorem R.live_of_get (h:R P ρ σ w) {i:Nat} {o:CObj} (hg:σ.get i=some o) (hd:o≠ .dead):∃p,ρ i=some p∧OR P ρ p w o:=by
 obtain⟨p,hp⟩:=h.tot i ⟨o,hg,hd⟩;exact⟨p,hp,h.obj i o p hg hp⟩
theorem VR.place {v:Value} {i off:Nat} (h:VR ρ (.pointer (some ⟨i,off,none⟩)) v):∃p,ρ i=some p∧v= .pointer (some ⟨p.b,p.o+off,none⟩):=by
 cases h with
 |plain v hf=>simp [qae] at hf
 |ptr _ _ p hp=>exact⟨p,hp,rfl⟩
theorem VR.mapv {v:Value} {i:Nat} (h:VR ρ (.map (some i)) v):∃p,ρ i=some p∧v= .map (some p.b):=by
 cases h with
 |plain v hf=>simp [qae] at hf
 |map _ p hp=>exact⟨p,hp,rfl⟩
theorem qk5 (h:R P ρ σ w) {ev ev':Operand→Value} {o:Oper} (hs:∀cs b,o.op≠ .select cs b) (he:∀x∈o.op.operands,VR ρ (ev x) (ev' x)) {v:Value} {σ':CSt}
  (hc:qbc P σ ev o= .val v σ'):qe7 P ρ σ w ((execOp ev' o).run P w) v σ':=by
 unfold qbc at hc;split at hc
 ·rename_i hall;simp only [List.all_eq_true] at hall;have heq:execOp ev' o=execOp ev o:=(execOp_congr o hs λx hx=>((he x hx).flatA_eq (hall x (by simpa using hx))).symm).symm
  split at hc
  ·rename_i u hp;split at hc
   ·rename_i hf;cases hc;rw [heq];exact .same h (qtp hp w) (.of_flat hf)
   ·cases hc
  ·cases hc
 ·cases hc
theorem qi3 {t:TypeId} (hne:P.underlying t≠none) (w:World):(isAgg t).run P w= .ok (qd6 P t) w:=by
 cases hd:P.underlying t with
 |none=>exact absurd hd hne
 |some d=>
  unfold isAgg qd6;simp only [Sem.run_bind,run_underlying hd,Result.andThen_ok,hd];cases d<;>rfl
theorem qq4 {t:TypeId} (h:qd6 P t=true):P.underlying t≠none:=by
 unfold qd6 at h;intro e;rw [e] at h;cases h
theorem qbp {t:TypeId} {i:TypeInfo} (hi:P.info? t=some i) (w:World):(sizeOf t).run P w= .ok i.size w:=by simp [sizeOf,typeInfo,hi]
theorem qc5 {t:TypeId} {i:TypeInfo} {z:Value} (hi:P.info? t=some i) (hz:i.zero=some z) (w:World):(zeroValue t).run P w= .ok z w:=by simp [zeroValue,typeInfo,hi,hz]
theorem qmx (h:R P ρ σ w) {t:TypeId} {a a' v:Value} (ha:VR ρ a a') (hl:loadAt P σ t a=some v):∃v',(Instr.loadAt t a').run P w= .ok v' w∧VR ρ v v':=by
 unfold loadAt at hl;split at hl
 ·rename_i i off;split at hl
  ·rename_i c e ro hc;split at hl
   ·rename_i inf hi;obtain⟨p,hp,ho⟩:=h.live_of_get (qe0 hc) (by simp)
    obtain⟨p',hp',rfl⟩:=ha.place;rw [hp] at hp';cases hp';split at hl
    ·rename_i hagg;simp only [Option.map_eq_some_iff] at hl;obtain⟨l,hl,rfl⟩:=hl;obtain⟨l',h1,h2,h3⟩:=ho.cellsRun hl;refine⟨.agg l'.toArray, ?_, .agg _ _ h1.toArray.1 h1.toArray.2⟩;have hrun:=run_loadCells_list (P:=P) w ⟨p.b,p.o+off,none⟩ l' h3;simp only [Instr.loadAt,Instr.sureAddr,loadVar,Sem.run_bind,Sem.run_pure,Result.andThen_ok,qi3 (qq4 hagg),hagg,if_true,qbp hi];rw [←h2,hrun]
     rfl
    ·rename_i hagg;split at hl
     ·cases hl
     ·rename_i hne;obtain⟨v',h1,h2⟩:=ho.cell hl;refine⟨v', ?_,h2⟩;simp only [Instr.loadAt,Instr.sureAddr,loadVar,Sem.run_bind,Sem.run_pure,Result.andThen_ok,qi3 hne];rw [if_neg hagg];simp [h1]
   ·cases hl
  ·cases hl
 ·cases hl
theorem qu6 (h:R P ρ σ w) {t:TypeId} {a a' v v':Value} {σ':CSt} (ha:VR ρ a a') (hv:VR ρ v v') (hl:storeAt P σ t a v=some σ'):
  ∃w',(Instr.storeAt t a' v').run P w= .ok () w'∧R P ρ σ' w'∧Frm ρ σ w ρ σ' w':=by
 unfold storeAt at hl;split at hl
 ·rename_i i off;split at hl
  ·rename_i c e ro inf hc hi;split at hl
   ·rename_i hcond;obtain⟨hro,hsz,hcv⟩:=hcond;subst hro;simp only [Option.map_eq_some_iff] at hl;obtain⟨c',hst,rfl⟩:=hl;obtain⟨p,hp,rfl⟩:=ha.place;have hne:v≠ .tuple #[]:=by
     intro e;subst e;simp [Value.cells,cellv] at hcv
    have hvc:=hv.cells hne
    obtain⟨w',h1,h2,h3⟩:=h.store hp (qe0 hc) hst hvc.toList (λu hu=>by
     obtain⟨j,hj,rfl⟩:=List.getElem_of_mem hu;have hj':j<v.cells.toList.length:=by have:=hvc.toList.1;omega
     exact(hvc.toList.2 j hj' hj).cellv (List.all_eq_true.1 hcv _ (List.getElem_mem hj')))
    refine⟨w', ?_,h2,h3⟩;have hs':v'.cells.size=inf.size:=by rw [←hvc.1];exact hsz
    simp only [Instr.storeAt,Instr.sureAddr,storeVar,Sem.run_bind,Sem.run_pure,Result.andThen_ok,qbp hi];simp [hs',h1]
   ·cases hl
  ·cases hl
 ·cases hl
theorem qov {s:TypeId} {x x' v:Value} {f:Nat} (hx:VR ρ x x') (hl:fieldAt P s x f=some v):∃v',(Instr.fieldAt s x' f).run P w= .ok v' w∧VR ρ v v':=by
 unfold fieldAt at hl;split at hl
 ·rename_i fs i off hu;split at hl
  ·rename_i fl hf;split at hl
   ·rename_i inf hi;split at hl
    ·cases hl
    ·rename_i hne;cases hl;obtain⟨p,hp,rfl⟩:=hx.place;refine⟨.pointer (some ⟨p.b,p.o+(off+fl.offset),none⟩), ?_, .ptr _ _ _ hp⟩;simp only [Instr.fieldAt,Sem.run_bind,run_underlying hu,Result.andThen_ok,hf,Instr.sureAddr,Sem.run_pure,fieldPlace,qbp hi];simp [hne,Addr.add_plain,Nat.add_assoc]
   ·cases hl
  ·cases hl
 ·cases hl
theorem qrb {t:TypeId} {cs ds:Array Value} {off:Nat} {v:Value} (hx:AsR ρ cs ds) (hl:qyx P t cs off=some v):∃v',(part t ds off).run P w= .ok v' w∧VR ρ v v':=by
 unfold qyx at hl;split at hl
 ·rename_i hagg;simp only [Option.map_eq_some_iff] at hl;obtain⟨inf,hi,rfl⟩:=hl;refine⟨.agg (ds.extract off (off+inf.size)), ?_, .agg _ _ (by simp [hx.1]) λi u v=> ?_⟩
  ·simp only [part,Sem.run_bind,qi3 (qq4 hagg),Result.andThen_ok,hagg,if_true,qbp hi,Sem.run_pure]
  ·simp only [Array.getElem_extract];exact hx.2 _ _ _
 ·rename_i hagg;split at hl
  ·cases hl
  ·rename_i hne;obtain⟨u,rfl⟩:=Array.getElem?_eq_some_iff.1 hl;have u':off<ds.size:=by have:=hx.1;omega
   refine⟨ds[off], ?_,hx.2 _ u u'⟩;simp only [part,Sem.run_bind,qi3 hne,Result.andThen_ok];rw [if_neg hagg];simp [Array.getElem?_eq_getElem u']
theorem qnp {s:TypeId} {x x' v:Value} {f:Nat} (hx:VR ρ x x') (hl:qtd P s x f=some v):∃v',(Instr.field s x' f).run P w= .ok v' w∧VR ρ v v':=by
 unfold qtd at hl;split at hl
 ·rename_i fs cs hu;split at hl
  ·rename_i fl hf;cases hx with
   |plain v hf=>simp [qae] at hf
   |agg _ ds h1 h2=>
    obtain⟨v',e1,e2⟩:=qrb (w:=w) ⟨h1,h2⟩ hl;refine⟨v', ?_,e2⟩;simp only [Instr.field,Sem.run_bind,run_underlying hu,Result.andThen_ok,hf,asAgg,Sem.run_pure,e1]
  ·cases hl
 ·cases hl
theorem qoo {t:TypeId} {x x' ix ix' v:Value} (hx:VR ρ x x') (hi:VR ρ ix ix') (hl:indexAt P t x ix=some v):∃v',(Instr.indexAt t x' ix').run P w= .ok v' w∧VR ρ v v':=by
 unfold indexAt at hl;split at hl
 ·rename_i k n;obtain rfl:=hi.int;split at hl
  ·rename_i e i off len cap hu;split at hl
   ·rename_i inf hinf;split at hl
    ·rename_i hb;cases hl;have key:∀(p:Place) (len' cap':Nat),len'=len→ρ i=some p→∃v',(Instr.indexAt t (.slice (some ⟨p.b,p.o+off,none⟩) len' cap') (.int k n)).run P w= .ok v' w∧VR ρ (.pointer (some ⟨i,off+n.toNat*inf.size,none⟩)) v':=by
      intro p len' cap' hlen hp;subst hlen;refine⟨.pointer (some ⟨p.b,p.o+(off+n.toNat*inf.size),none⟩), ?_, .ptr _ _ _ hp⟩;simp only [Instr.indexAt,asIntOf,Sem.run_bind,Sem.run_pure,run_underlying hu,Result.andThen_ok];simp [hb,qbp hinf,Addr.add_plain,Nat.add_assoc]
     cases hx with
     |plain v hf=>simp [qae] at hf
     |slc _ _ _ _ p hp hc=>exact key p _ _ rfl hp
     |slo _ _ _ c p hp hn hc hb=>exact key p _ _ rfl hp
     |sle _ _ a p hp he=>omega
     |slz _ _ a p hp=>omega
    ·cases hl
   ·cases hl
  ·rename_i len e i off hu;split at hl
   ·rename_i inf hinf;split at hl
    ·rename_i hb;cases hl;obtain⟨p,hp,rfl⟩:=hx.place;refine⟨.pointer (some ⟨p.b,p.o+(off+n.toNat*inf.size),none⟩), ?_, .ptr _ _ _ hp⟩;simp only [Instr.indexAt,asIntOf,Instr.sureAddr,Sem.run_bind,Sem.run_pure,run_underlying hu,Result.andThen_ok];simp [hb,qbp hinf,Addr.add_plain,Nat.add_assoc]
    ·cases hl
   ·cases hl
  ·cases hl
 ·cases hl
end
def qr3 (ρ:Rho):Option Value→Option Value→Prop
 |none,none=>True
 |some v,some w=>VR ρ v w
 |_,_=>False
theorem LR.flat {ρ:Rho} {l:List Value} (h:∀v∈l,qae v=true):LR ρ l l:=⟨rfl,λi u v=> .plain _ (h _ (List.getElem_mem u))⟩
theorem LR.all_cellv {ρ:Rho} {l m:List Value} (h:LR ρ l m) (hc:l.all cellv=true):∀v∈m,v.oneCell'=true:=λv hv=>by
 obtain⟨j,hj,rfl⟩:=List.getElem_of_mem hv;have hj':j<l.length:=by have:=h.1;omega
 exact(h.2 j hj' hj).cellv (List.all_eq_true.1 hc _ (List.getElem_mem hj'))
theorem qgz {z:Array Value} (h:z.toList.all qae=true) (n:Nat):∀v∈qbz z n,qae v=true:=λv hv=>by
 unfold qbz at hv;simp only [Array.toList_map,List.mem_map,Array.mem_toList_iff,Array.mem_range] at hv;obtain⟨i,hi,rfl⟩:=hv;have hp:0<z.size:=by
  rcases Nat.eq_zero_or_pos z.size with e|e
  ·rw [e] at hi;simp at hi
  ·exact e
 have:=Nat.mod_lt i hp;rw [getElem!_pos z _ this];exact List.all_eq_true.1 h _ (by simp)
theorem qex (z:Array Value) (n:Nat):(qbz z n).length=n*z.size:=by simp [qbz]
section
variable {P:Program} {ρ:Rho} {σ:CSt} {w:World}
theorem qr3.bound {a b:Option Value} (h:qr3 ρ a b) {d n:Nat} (hb:qai d a=some n):b=a:=by
 cases a with
 |none=>cases b with|none=>rfl|some v=>exact h.elim
 |some v=>
  cases b with
  |none=>exact h.elim
  |some w=>
   cases v with
   |int k m=>rw [VR.int h]
   |_=>simp [qai] at hb
theorem qwi {isSlice:Bool} {len cap l h m:Nat} {lo hi mx:Option Value} (h1:qai 0 lo=some l) (h2:qai len hi=some h) (h3:qai cap mx=some m)
  (a:l≤h) (b:h≤m) (c:m≤cap) (d:mx.isSome→hi.isSome) (w:World):(Instr.sliceBounds isSlice len cap lo hi mx).run P w= .ok (l,h,m) w:=by
 have key:∀{dflt n y:Nat} {v:Value} {code:BoundsCode},qai dflt (some v)=some n→n≤y→(Instr.sliceBound v y code).run P w= .ok n w:=by
  intro dflt n y v code hb hy;cases v with
  |int k i=>
   simp only [qai] at hb;split at hb
   ·cases hb;rename_i h0;exact run_sliceBound w k i y code h0 (by omega)
   ·cases hb
  |_=>simp [qai] at hb
 unfold Instr.sliceBounds;cases mx with
 |none=>
  cases h3;cases hi with
  |none=>
   cases h2;cases lo with
   |none=>cases h1;simp
   |some lv=>simp [key h1 a]
  |some hv=>
   cases lo with
   |none=>cases h1;simp [key h2 b]
   |some lv=>simp [key h2 b,key h1 a]
 |some mv=>
  cases hi with
  |none=>simp at d
  |some hv=>
   cases lo with
   |none=>cases h1;simp [key h3 c,key h2 b]
   |some lv=>simp [key h3 c,key h2 b,key h1 a]
theorem qd0 {t e:TypeId} {inf:TypeInfo} (h:qdv P t=some (e,inf)):P.underlying t=some (.slice e)∧P.info? e=some inf:=by
 unfold qdv at h;split at h
 ·rename_i e' hu;simp only [Option.map_eq_some_iff,Prod.mk.injEq] at h;obtain⟨i,hi,rfl,rfl⟩:=h;exact⟨hu,hi⟩
 ·cases h
theorem qe2 {e:TypeId} {inf:TypeInfo} (h:P.info? e=some inf):P.cellsOf e=inf.size:=by simp [Program.cellsOf,h]
theorem OR.len {p:Place} {c:List Value} {e:TypeId} {ro:Bool} (h:OR P ρ p w (.cells c e ro)):c.length≤p.e∧p.z=P.cellsOf e:=by
 cases ro with
 |true=>exact⟨h.1.2,h.1.1⟩
 |false=>obtain⟨hz,cc,fz,_,_,h3,_⟩:=h;exact⟨h3,hz⟩
theorem qgn {t e:TypeId} {inf:TypeInfo} {a:Option Addr} {len cap l h m:Nat} {lo hi mx:Option Value} (hu:P.underlying t=some (.slice e)) (hi':P.info? e=some inf)
  (h1:qai 0 lo=some l) (h2:qai len hi=some h) (h3:qai cap mx=some m) (x1:l≤h) (x2:h≤m) (x3:m≤cap) (x4:mx.isSome→hi.isSome) (w:World):
  (Instr.sliceAt t (.slice a len cap) lo hi mx).run P w= .ok (.slice (if m=l then a else a.map (·.add (l*inf.size))) (h-l) (m-l)) w:=by
 simp only [Instr.sliceAt,Instr.slice,Sem.run_bind,run_underlying hu,Result.andThen_ok,qwi h1 h2 h3 x1 x2 x3 x4,qbp hi',Sem.run_pure]
theorem qwf {d d':Nat} {v:Option Value} {n:Nat} (h:qai d v=some n) (hs:v.isSome):qai d' v=some n:=by
 cases v with
 |none=>simp at hs
 |some v=>cases v<;>simp_all [qai]
theorem qo9 (h:R P ρ σ w) {t:TypeId} {x x' v:Value} {lo lo' hi hi' mx mx':Option Value} (hx:VR ρ x x') (hlo:qr3 ρ lo lo') (hhi:qr3 ρ hi hi') (hmx:qr3 ρ mx mx')
  (hl:qd7 P σ t x lo hi mx=some v):∃v',(Instr.sliceAt t x' lo' hi' mx').run P w= .ok v' w∧VR ρ v v':=by
 unfold qd7 at hl;split at hl
 ·--nil
  rename_i e inf he;obtain⟨hu,hinf⟩:=qd0 he;obtain rfl:=hx.flat_eq rfl;split at hl
  ·rename_i l hh m b1 b2 b3;split at hl
   ·rename_i hc;cases hl;obtain⟨c1,c2,c3,c4,_⟩:=hc;obtain rfl:=hlo.bound b1;obtain rfl:=hhi.bound b2;obtain rfl:=hmx.bound b3;refine⟨_,qgn hu hinf b1 b2 b3 c1 c2 c3 c4 w, ?_⟩;have:hh-l=0∧m-l=0:=by omega
    rw [this.1,this.2];split<;>exact .plain _ rfl
   ·cases hl
  ·cases hl
 ·--a row
  rename_i e inf i off len cap he;obtain⟨hu,hinf⟩:=qd0 he;split at hl
  ·--open
   rename_i hcap;subst hcap;split at hl
   ·rename_i c e' ro hcs;split at hl
    ·rename_i hce;obtain⟨rfl,hpos⟩:=hce;obtain⟨p,hp,ho⟩:=h.live_of_get (qe0 hcs) (by simp)
     obtain⟨hlen,hz⟩:=ho.len;rw [qe2 hinf] at hz
     --what the model's capacity bears
     have fits:∀(cap' hh:Nat),(off+cap'*p.z=p.e∨(cap'=0∧p.e≤off))→len≤cap'→(hh≤len∨off+hh*inf.size≤c.length)→hh≤cap':=by
      intro cap' hh hcap' hlc hk;rcases hk with hk|hk
      ·omega
      ·rcases hcap' with e1|⟨rfl,e1⟩
       ·have:hh*inf.size≤cap'*inf.size:=by rw [hz] at e1;omega
        exact Nat.le_of_mul_le_mul_right this hpos
       ·rcases Nat.eq_zero_or_pos hh with rfl|hp'
        ·omega
        ·have:=Nat.le_mul_of_pos_left inf.size hp';omega
     have hx2:∃a cap',x'= .slice (some a) len cap'∧len≤cap'∧cap'<qa1∧((a=⟨p.b,p.o+off,none⟩∧off+cap'*p.z=p.e)∨(cap'=0∧p.e≤off)):=by
      cases hx with
      |plain v hf=>simp [qae] at hf
      |slc _ _ _ _ q hq hc=>exact absurd rfl hc
      |slo _ _ _ cap' q hq hn hc hbb=>rw [hp] at hq;cases hq;exact⟨_,cap',rfl,hn,hbb, .inl ⟨rfl,hc⟩⟩
      |sle _ _ a q hq he=>rw [hp] at hq;cases hq;exact⟨a,0,rfl,by omega,by simp [qa1], .inr ⟨rfl,he⟩⟩
     obtain⟨a,cap',rfl,hlc,hltc,hac⟩:=hx2;have hcap':off+cap'*p.z=p.e∨(cap'=0∧p.e≤off):=hac.imp (·.2) id
     split at hl
     ·--no max
      rename_i l hh b1 b2;split at hl
      ·rename_i hc;cases hl;obtain⟨c1,c2⟩:=hc;have hhc:=fits cap' hh hcap' hlc c2;obtain rfl:=hlo.bound b1;obtain rfl:=hhi.bound b2;cases mx' with
       |some m=>exact hmx.elim
       |none=>
        refine⟨_,qgn hu hinf b1 b2 (show qai cap' none=some cap' from rfl) c1 hhc (Nat.le_refl _) (by simp) w, ?_⟩
        by_cases el:cap'=l
        ·subst el;have:hh-cap'=0:=by omega
         rw [this,if_pos rfl,Nat.sub_self];refine .sle _ _ _ p hp ?_;rcases hac with⟨_,e1⟩|⟨rfl,e1⟩
         ·rw [hz] at e1;omega
         ·omega
        ·rw [if_neg el];rcases hac with⟨rfl,e1⟩|⟨rfl,e1⟩
         ·simp only [Option.map_some,Addr.add_plain,Nat.add_assoc];refine .slo _ _ _ _ p hp (by omega) ?_ (by omega)
          rw [hz] at e1⊢;rw [←e1,Nat.add_assoc,←Nat.add_mul]
          congr 2
          omega
         ·omega
      ·cases hl
     ·--with a max
      rename_i l hh mv b1 b2;split at hl
      ·rename_i m b3;split at hl
       ·rename_i hc;cases hl;obtain⟨c1,c2,c3,c4,c5⟩:=hc;have hmc:=fits cap' m hcap' hlc c4;obtain rfl:=hlo.bound b1;obtain rfl:=hhi.bound b2;obtain rfl:=hmx.bound b3;refine⟨_,qgn hu hinf b1 b2 (qwf b3 rfl) c1 c2 hmc (λ_=>c3) w, ?_⟩
        rcases hac with⟨rfl,e1⟩|⟨rfl,e1⟩
        ·by_cases em:m=l
         ·rw [if_pos em,if_pos em];exact .slc _ _ _ _ p hp (by omega)
         ·rw [if_neg em,if_neg em];simp only [Option.map_some,Addr.add_plain,Nat.add_assoc];exact .slc _ _ _ _ p hp (by omega)
        ·have:m=l:=by omega
         rw [if_pos this,if_pos this];have z1:hh-l=0:=by omega
         have z2:m-l=0:=by omega
         rw [z1,z2];exact .slz _ _ _ p hp
       ·cases hl
      ·cases hl
     ·cases hl
    ·cases hl
   ·cases hl
  ·--closed
   rename_i hcap;split at hl
   ·rename_i l hh m b1 b2 b3;split at hl
    ·rename_i hc;cases hl;obtain⟨c1,c2,c3,c4,c5⟩:=hc;obtain rfl:=hlo.bound b1;obtain rfl:=hhi.bound b2;obtain rfl:=hmx.bound b3;cases hx with
     |plain v hf=>simp [qae] at hf
     |slo _ _ _ cap' q hq hn hc hbb=>exact absurd rfl hcap
     |sle _ _ a q hq he=>exact absurd rfl hcap
     |slz _ _ a q hq=>
      refine⟨_,qgn hu hinf b1 b2 b3 c1 c2 c3 c4 w, ?_⟩;have:m=l:=by omega
      rw [if_pos this,if_pos this];have z1:hh-l=0:=by omega
      have z2:m-l=0:=by omega
      rw [z1,z2];exact .slz _ _ _ q hq
     |slc _ _ _ _ q hq hc=>
      refine⟨_,qgn hu hinf b1 b2 b3 c1 c2 c3 c4 w, ?_⟩;by_cases em:m=l
      ·rw [if_pos em,if_pos em];exact .slc _ _ _ _ q hq (by omega)
      ·rw [if_neg em,if_neg em];simp only [Option.map_some,Addr.add_plain,Nat.add_assoc];exact .slc _ _ _ _ q hq (by omega)
    ·cases hl
   ·cases hl
 ·cases hl
end
section
variable {P:Program} {ρ:Rho} {σ:CSt} {w:World}
def qu0 (P:Program) (w:World) (s:Sem (Array Value)) (l:List Value):Prop:=∀w',Sw w w'→s.run P w'= .ok l.toArray w'
theorem qip (h:R P ρ σ w) {size n:Nat} {x x':Value} {l:List Value} (hx:VR ρ x x') (hl:qcz σ size n x=some l) (hn:qea x=some n∨(∃m,qea x=some m∧n≤m)):
  ∃l',LR ρ l l'∧qu0 P w (Builtin.firstCells size n x') l':=by
 have hsw:∀w',Sw w w'→∀a,w'.cell? a=w.cell? a:=λw' s a=>by simp [World.cell?,s.heap]
 unfold qcz at hl;split at hl
 ·rename_i i off len cap;split at hl
  ·rename_i c e ro hc;obtain⟨p,hp,ho⟩:=h.live_of_get (qe0 hc) (by simp)
   obtain⟨l',h1,h2,h3⟩:=ho.cellsRun hl;have key:∀len' cap',qu0 P w (Builtin.firstCells size n (.slice (some ⟨p.b,p.o+off,none⟩) len' cap')) l':=λlen' cap' w' s=>
    run_firstCells_some w' size n _ len' cap' l' h2 (λj v hv=>by rw [hsw w' s];exact h3 j v hv)
   have nil:n=0→∀a len' cap',qu0 P w (Builtin.firstCells size n (.slice (some a) len' cap')) l':=λhn0 a len' cap' w' s=>by
    subst hn0;have:l'= []:=List.eq_nil_of_length_eq_zero (by simpa using h2)
    subst this;exact run_firstCells_some w' size 0 _ len' cap' [] (by simp) (λj v hv=>by simp at hv)
   refine⟨l',h1, ?_⟩;have hle:n≤len:=by
    simp only [qea,Option.some.injEq] at hn;rcases hn with e|⟨m,rfl,e⟩<;>omega
   cases hx with
   |plain v hf=>simp [qae] at hf
   |slc _ _ _ _ q hq hc=>rw [hp] at hq;cases hq;exact key _ _
   |slo _ _ _ _ q hq hn hc hbb=>rw [hp] at hq;cases hq;exact key _ _
   |sle _ _ a q hq he=>exact nil (by omega) _ _ _
   |slz _ _ a q hq=>exact nil (by omega) _ _ _
  ·cases hl
 ·cases hl;obtain rfl:=hx.flat_eq rfl;exact⟨[], .nil ρ,λw' s=>by simp [Builtin.firstCells]⟩
 ·rename_i s;cases hl;obtain rfl:=hx.string;refine⟨_,LR.flat (λv hv=> ?_),λw' _=> ?_⟩
  ·simp only [List.mem_map] at hv;obtain⟨b,_,rfl⟩:=hv;rfl
  ·simp only [Builtin.firstCells,Sem.run_pure,Result.ok.injEq,and_true];apply Array.ext';simp
 ·cases hl
theorem ql1 {x x':Value} {n:Nat} (hx:VR ρ x x') (hl:qea x=some n) (w:World):(Builtin.lenOf x').run P w= .ok n w:=by
 unfold qea at hl;split at hl
 ·cases hl;cases hx with
  |plain v hf=>simp [Builtin.lenOf]
  |_=>simp [Builtin.lenOf]
 ·cases hl;obtain rfl:=hx.string;simp [Builtin.lenOf]
 ·cases hl
def qz2 (P:Program) (w:World) (ts:Array TypeId) (e:TypeId) (inf:TypeInfo) (x':Value) (n:Nat) (l:List Value):Prop:=
 ∃t u,ts[0]? =some t∧ts[1]? =some u∧P.underlying t=some (.slice e)∧P.info? e=some inf∧
  ((∃k k' z,P.underlying u=some (.int k)∧x'= .int k' (n:Int)∧n*inf.bytes≤2^47∧0<inf.bytes∧inf.zero=some z∧z.cells.size=inf.size∧0<inf.size∧l=qbz z.cells n)∨
   (((∃e',P.underlying u=some (.slice e'))∨P.underlying u=some .string)∧(∀w',(Builtin.lenOf x').run P w'= .ok n w')∧qu0 P w (Builtin.firstCells inf.size n x') l))
theorem qg4 {ts:Array TypeId} {ty e:TypeId} {inf:TypeInfo} {x':Value} {n:Nat} {l:List Value} (hs:qz2 P w ts e inf x' n l) {base:Option Addr} {len cap:Nat} (hc:len+n≤cap) {w':World}
  (hst:∀a,base=some a→(storeCells (a.add (len*inf.size)) l 0).run P w= .ok () w') (hb:base=none→w'=w):
  (Builtin.append_ ts ty #[.slice base len cap,x']).run P w= .ok (.slice base (len+n) cap) w':=by
 obtain⟨t,u,h0,h1,hu,hi,hsrc⟩:=hs;rcases hsrc with⟨k,k',z,hk,rfl,hn,hbp,hz,hzs,hsp,rfl⟩|⟨hd,hlen,hrd⟩
 ·have hn63:(n:Int)<2^62:=by
   have:n*1≤n*inf.bytes:=Nat.mul_le_mul_left n hbp;omega
  have hw:IntKind.i64.wrap (n:Int)=n:=IntWalk.i64_in _ (by omega)
  have h48:¬(281474976710656<(n:Int)*inf.bytes):=by
   have:((n*inf.bytes:Nat):Int)≤2^47:=by exact_mod_cast hn
   push_cast at this
   omega
  have hzc:Builtin.zeroCells z.cells n=(qbz z.cells n).toArray:=by unfold qbz Builtin.zeroCells;simp only [Array.toArray_toList]
  have hn0:¬((n:Int)<0):=by omega
  cases base with
  |none=>
   rw [hb rfl];by_cases e0:n*inf.size=0
   ·simp [Builtin.append_,h0,h1,run_underlying hu,run_underlying hk,sizeOf,typeInfo,hi,asInt,asIntOf,hw,h48,hn0,hc,e0]
   ·simp [Builtin.append_,h0,h1,run_underlying hu,run_underlying hk,sizeOf,typeInfo,zeroValue,hi,hz,asInt,asIntOf,hw,h48,hn0,hc,e0]
  |some a=>
   have hs:=hst a rfl;by_cases e0:n*inf.size=0
   ·have hz0:qbz z.cells n= []:=List.eq_nil_of_length_eq_zero (by rw [qex,hzs,e0])
    rw [hz0] at hs;simp [Builtin.append_,h0,h1,run_underlying hu,run_underlying hk,sizeOf,typeInfo,hi,asInt,asIntOf,hw,h48,hn0,hc,e0,hs]
   ·simp [Builtin.append_,h0,h1,run_underlying hu,run_underlying hk,sizeOf,typeInfo,zeroValue,hi,hz,asInt,asIntOf,hw,h48,hn0,hc,e0,hzc,hs]
 ·have hrd':=hrd w (Sw.refl w);rcases hd with⟨e',hd⟩|hd
  ·cases base with
   |none=>rw [hb rfl];simp [Builtin.append_,h0,h1,run_underlying hu,run_underlying hd,sizeOf,typeInfo,hi,hlen,hc,hrd']
   |some a=>have hs:=hst a rfl;simp [Builtin.append_,h0,h1,run_underlying hu,run_underlying hd,sizeOf,typeInfo,hi,hlen,hc,hrd',hs]
  ·cases base with
   |none=>rw [hb rfl];simp [Builtin.append_,h0,h1,run_underlying hu,run_underlying hd,sizeOf,typeInfo,hi,hlen,hc,hrd']
   |some a=>have hs:=hst a rfl;simp [Builtin.append_,h0,h1,run_underlying hu,run_underlying hd,sizeOf,typeInfo,hi,hlen,hc,hrd',hs]
theorem qto {ts:Array TypeId} {ty e:TypeId} {inf:TypeInfo} {x':Value} {n:Nat} {l:List Value} (hs:qz2 P w ts e inf x' n l) {z:Value} (hz:inf.zero=some z) (hzs:z.cells.size=inf.size) (hbp:0<inf.bytes)
  {base:Option Addr} {len cap:Nat} (hc:cap<len+n) (hb:(len+n)*inf.bytes≤2^47) {old:List Value} (ho:qu0 P w (Builtin.firstCells inf.size len (.slice base len cap)) old):
  ∃(c:Nat) (w':World),(Builtin.append_ ts ty #[.slice base len cap,x']).run P w= .ok (.slice (some ⟨w.heap.size,0,none⟩) (len+n) c) w'∧len+n≤c∧c<qa1∧
   Wr w w' w.heap.size (.cells (old.toArray++l.toArray++Builtin.zeroCells z.cells (c-(len+n))) e):=by
 obtain⟨t,u,h0,h1,hu,hi,hsrc⟩:=hs;refine⟨grownCap w (len+n) cap e,w.drew.alloc (.cells (old.toArray++l.toArray++Builtin.zeroCells z.cells (grownCap w (len+n) cap e-(len+n))) e), ?_,grownCap_ge _ _ _ _, ?_, ?_⟩
 rotate_left
 ·have:=grownCap_le_maxLen w (len+n) cap e (by have:=Nat.mul_le_mul_left (len+n) hbp;simp only [maxLen];omega)
  simp only [maxLen] at this;simp only [qa1];omega
 rotate_left
 ·have hsw:Sw w w.drew:=⟨rfl,rfl,rfl,rfl⟩;have hc':¬(len+n≤cap):=by omega
  have h1b:(len+n)*1≤(len+n)*inf.bytes:=Nat.mul_le_mul_left _ hbp;have h63:¬(9223372036854775807<((len:Int)+(n:Int))):=by omega
  have hb0:¬(inf.bytes=0):=by omega
  have hfit:=growslice_fits (need:=len+n) (old:=cap) (bytes:=inf.bytes) hc (by omega)
  have h48':¬(281474976710656<Builtin.nextslicecap (len+n) cap*inf.bytes):=by omega
  have ho':=ho _ hsw;have hsz:w.drew.heap.size=w.heap.size:=rfl;rcases hsrc with⟨k,k',z',hk,rfl,hn,_,hz',hzs',hsp,rfl⟩|⟨hd,hlen,hrd⟩
  ·rw [hz] at hz';cases hz';have hn63:(n:Int)<2^62:=by
    have:n*1≤n*inf.bytes:=Nat.mul_le_mul_left n hbp;omega
   have hw:IntKind.i64.wrap (n:Int)=n:=IntWalk.i64_in _ (by omega)
   have h48:¬(281474976710656<(n:Int)*inf.bytes):=by
    have:((n*inf.bytes:Nat):Int)≤2^47:=by exact_mod_cast hn
    push_cast at this
    omega
   have hzc:Builtin.zeroCells z.cells n=(qbz z.cells n).toArray:=by unfold qbz Builtin.zeroCells;simp only [Array.toArray_toList]
   have hn0:¬((n:Int)<0):=by omega
   by_cases e0:n*inf.size=0
   ·have hz0:qbz z.cells n= []:=List.eq_nil_of_length_eq_zero (by rw [qex,hzs,e0])
    simp [Builtin.append_,h0,h1,run_underlying hu,run_underlying hk,sizeOf,typeInfo,zeroValue,hi,hz,asInt,asIntOf,hw,h48,hn0,hc',e0,hz0,h63,hb0,h48',Question.forced,ho',newRow,grownCap]
   ·simp [Builtin.append_,h0,h1,run_underlying hu,run_underlying hk,sizeOf,typeInfo,zeroValue,hi,hz,asInt,asIntOf,hw,h48,hn0,hc',e0,hzc,h63,hb0,h48',Question.forced,ho',newRow,grownCap]
    congr 2;apply Array.ext';simp [List.append_assoc]
  ·have hrd':=hrd _ hsw;rcases hd with⟨e',hd⟩|hd
   ·simp [Builtin.append_,h0,h1,run_underlying hu,run_underlying hd,sizeOf,typeInfo,zeroValue,hi,hz,hlen,hc',h63,hb0,h48',Question.forced,ho',hrd',newRow,grownCap]
    congr 2;apply Array.ext';simp [List.append_assoc]
   ·simp [Builtin.append_,h0,h1,run_underlying hu,run_underlying hd,sizeOf,typeInfo,zeroValue,hi,hz,hlen,hc',h63,hb0,h48',Question.forced,ho',hrd',newRow,grownCap]
    congr 2;apply Array.ext';simp [List.append_assoc]
 ·exact Wr.of_same (w':=w.drew) ⟨rfl,rfl,rfl,rfl⟩ (by have:=Wr.push w.drew (.cells (old.toArray++l.toArray++Builtin.zeroCells z.cells (grownCap w (len+n) cap e-(len+n))) e);exact this)
end
def VOk (P:Program) (ρ:Rho) (σ:CSt) (w:World) (s:Sem Value) (v:Value) (σ':CSt):Prop:=
 ∃(v':Value) (ρ':Rho) (w':World),s.run P w= .ok v' w'∧R P ρ' σ' w'∧VR ρ' v v'∧Frm ρ σ w ρ' σ' w'
section
variable {P:Program} {ρ:Rho} {σ:CSt} {w:World}
theorem Rho.set_self (ρ:Rho) (i:Nat) (p:Place):(ρ.set i p) i=some p:=by simp [Rho.set]
theorem R.set_le (h:R P ρ σ w) (p:Place):ρ.le (ρ.set σ.n p):=λi q hq=>by
 unfold Rho.set;rw [if_neg];exact hq;intro e;rw [e,h.dom _ (Nat.le_refl _)] at hq;cases hq
theorem R.newRow {σ₀:CSt} (h:R P ρ σ₀ w) {w':World} {e:TypeId} {inf:TypeInfo} (hi:P.info? e=some inf) {new l:List Value} {rest:Array Value} (hl:LR ρ new l)
  (wr:Wr w w' w.heap.size (.cells (l.toArray++rest) e)) (c:Nat) (hc:(l.toArray++rest).size=c*inf.size):
  R P (ρ.set σ₀.n ⟨w.heap.size,0,c*inf.size,inf.size⟩) (σ₀.alloc (.cells new e false)) w'∧Frm ρ σ₀ w (ρ.set σ₀.n ⟨w.heap.size,0,c*inf.size,inf.size⟩) (σ₀.alloc (.cells new e false)) w':=by
 refine h.alloc wr (Nat.le_refl _) ⟨(qe2 hi).symm,l.toArray++rest,(0,0), ?_,by simpa using hc, ?_,λk u=> ?_, .inl rfl⟩
 ·have:=wr.at_ w.heap.size
  rwa [if_pos rfl] at this
 ·have:=hl.1;simp at hc;simp only;omega
 ·obtain⟨v',h1,h2⟩:=(hl.mono (h.set_le ⟨w.heap.size,0,c*inf.size,inf.size⟩)).getElem? (List.getElem?_eq_getElem u);refine⟨v', ?_,h2⟩;have hk:k<l.length:=(List.getElem?_eq_some_iff.1 h1).1;simp only [Nat.zero_add];rw [Array.getElem?_append_left (by simpa using hk)]
  simpa using h1
theorem qhh (h:R P ρ σ w) {ts:Array TypeId} {ty e:TypeId} {inf:TypeInfo} (hi:P.info? e=some inf) {s s' x' v:Value} {n:Nat} {new l:List Value} {σ':CSt} (hs:VR ρ s s')
  (hx:qz2 P w ts e inf x' n l) (hl:LR ρ new l) (ha:qeu P σ e inf s n new=some (v,σ')):VOk P ρ σ w (Builtin.append_ ts ty #[s',x']) v σ':=by
 unfold qeu at ha;split at ha
 case isFalse=>cases ha
 rename_i hcond;obtain⟨hlen,hcv,hsp,hbp,hzz⟩:=hcond;have hlen':l.length=n*inf.size:=by rw [←hl.1];exact hlen
 have hone:=hl.all_cellv hcv;obtain⟨z,hz,hzs⟩:∃z,inf.zero=some z∧z.cells.size=inf.size:=by
  cases hzo:inf.zero with
  |none=>rw [hzo] at hzz;cases hzz
  |some z=>rw [hzo] at hzz;exact⟨z,rfl,by simpa using hzz⟩
 have hzc:∀m,(Builtin.zeroCells z.cells m).size=m*inf.size:=λm=>by rw [size_zeroCells,hzs]
 --what grows
 have grow:∀{σ₀:CSt} (h₀:R P ρ σ₀ w),σ₀.n=σ.n→(∀ρ' σ' w',Frm ρ σ₀ w ρ' σ' w'→Frm ρ σ w ρ' σ' w')→∀{base:Option Addr} {len cap:Nat} {old old':List Value},cap<len+n→(len+n)*inf.bytes≤2^47→LR ρ old old'→old.length=len*inf.size→
   qu0 P w (Builtin.firstCells inf.size len (.slice base len cap)) old'→
   VOk P ρ σ w (Builtin.append_ ts ty #[.slice base len cap,x']) (.slice (some ⟨σ.n,0,none⟩) (len+n) qa1) (σ₀.alloc (.cells (old++new) e false)):=by
  intro σ₀ h₀ hn hfr base len cap old old' hcap hbb hold holdl hrd;obtain⟨c,w',hrun,hc,hcb,wr⟩:=qto (ty:=ty) hx hz hzs hbp hcap hbb hrd;have hol:old'.length=len*inf.size:=by rw [←hold.1];exact holdl
  have hsum:len*inf.size+n*inf.size=(len+n)*inf.size:=(Nat.add_mul ..).symm;have hsz:((old'++l).toArray++Builtin.zeroCells z.cells (c-(len+n))).size=c*inf.size:=by
   simp only [Array.size_append,List.size_toArray,List.length_append,hzc,hol,hlen'];rw [hsum,←Nat.add_mul]
   congr 1
   omega
  obtain⟨r1,r2⟩:=h₀.newRow hi (hold.append hl) (rest:=Builtin.zeroCells z.cells (c-(len+n))) (by simpa using wr) c hsz
  refine⟨_,_,w',hrun,r1, ?_,hfr _ _ _ r2⟩;have:=VR.slo (ρ:=ρ.set σ₀.n ⟨w.heap.size,0,c*inf.size,inf.size⟩) σ₀.n 0 (len+n) c _ (Rho.set_self ..) hc (by simp) hcb
  rw [hn] at this⊢;simpa using this
 split at ha
 ·--nil
  obtain rfl:=hs.flat_eq rfl;split at ha
  ·rename_i h0;cases ha;subst h0;have:l= []:=List.eq_nil_of_length_eq_zero (by simpa using hlen')
   exact⟨_,ρ,w,qg4 hx (base:=none) (len:=0) (cap:=0) (Nat.le_refl _) (w':=w) (λa ea=>by cases ea) (λ_=>rfl),h, .plain _ rfl,Frm.refl ..⟩
  ·rename_i h0;split at ha
   ·rename_i hb;cases ha;have:=grow h rfl (λ_ _ _ f=>f) (base:=none) (len:=0) (cap:=0) (old:= []) (old':= []) (by omega) (by simpa using hb) (.nil ρ) (by simp) (λw' _=>by simp [Builtin.firstCells])
    simpa using this
   ·cases ha
 ·--a row
  rename_i i off len cap;split at ha
  ·--nothing is appended
   rename_i h0;split at ha
   ·rename_i hlc;cases ha;subst h0;have hl0:l= []:=List.eq_nil_of_length_eq_zero (by simpa using hlen')
    subst hl0;have key:∀a cap',len≤cap'→(Builtin.append_ ts ty #[.slice (some a) len cap',x']).run P w= .ok (.slice (some a) len cap') w:=λa cap' hc=>
     qg4 hx (len:=len) (cap:=cap') hc (w':=w) (λa' _=>rfl) (λea=>by cases ea)
    cases hs with
    |plain v hf=>simp [qae] at hf
    |slc _ _ _ _ q hq hc=>exact⟨_,ρ,w,key _ _ hlc,h, .slc _ _ _ _ q hq hc,Frm.refl ..⟩
    |slo _ _ _ c q hq hn hc hbb=>exact⟨_,ρ,w,key _ _ hn,h, .slo _ _ _ c q hq hn hc hbb,Frm.refl ..⟩
    |sle _ _ a q hq he=>exact⟨_,ρ,w,key _ _ (Nat.le_refl _),h, .sle _ _ a q hq he,Frm.refl ..⟩
    |slz _ _ a q hq=>exact⟨_,ρ,w,key _ _ (Nat.le_refl _),h, .slz _ _ a q hq,Frm.refl ..⟩
   ·cases ha
  ·rename_i h0;split at ha
   ·cases ha
   ·rename_i c e' ro hcs;have hget:=qe0 hcs;obtain⟨p,hp,ho⟩:=h.live_of_get hget (by simp)
    obtain⟨hcl,hpz⟩:=ho.len
    --old cells
    have olds:∀{old:List Value},ld c off (len*inf.size)=some old→∃old',LR ρ old old'∧old.length=len*inf.size∧∀cap',qu0 P w (Builtin.firstCells inf.size len (.slice (some ⟨p.b,p.o+off,none⟩) len cap')) old':=by
     intro old hold;obtain⟨l',g1,g2,g3⟩:=ho.cellsRun hold
     exact⟨l',g1,by rw [g1.1];exact g2,λcap' w' sw=>run_firstCells_some w' inf.size len _ len cap' l' g2 (λj v hv=>by
      have:=g3 j v hv
      simpa [World.cell?,sw.heap] using this)⟩
    --within what is there
    have inplace:∀{c':List Value} {cap':Nat},ro=false→st c (off+len*inf.size) new=some c'→len+n≤cap'→
      ∃w',(Builtin.append_ ts ty #[.slice (some ⟨p.b,p.o+off,none⟩) len cap',x']).run P w= .ok (.slice (some ⟨p.b,p.o+off,none⟩) (len+n) cap') w'∧R P ρ (σ.put i (.cells c' e' ro)) w'∧Frm ρ σ w ρ (σ.put i (.cells c' e' ro)) w':=by
     intro c' cap' hro hst hcap;subst hro;obtain⟨w',g1,g2,g3⟩:=h.store hp hget hst hl hone;refine⟨w',qg4 hx hcap (λa ea=> ?_) (λea=>by cases ea),g2,g3⟩
     cases ea;rw [Addr.add_plain,Nat.add_assoc];exact g1
    split at ha
    ·--open
     rename_i hcap;subst hcap;split at ha
     ·rename_i hee;obtain⟨rfl,hro⟩:=hee;rw [qe2 hi] at hpz;split at ha
      ·--it fits into what is known
       rename_i hfit;simp only [Option.map_eq_some_iff,Prod.mk.injEq] at ha;obtain⟨c',hst,rfl,rfl⟩:=ha;have hpos:0<(len+n)*inf.size:=Nat.mul_pos (by omega) hsp
       cases hs with
       |plain v hf=>simp [qae] at hf
       |slc _ _ _ _ q hq hc=>exact absurd rfl hc
       |slo _ _ _ cap' q hq hn hc hbb=>
        rw [hp] at hq;cases hq;have hcapn:len+n≤cap':=by
         rw [hpz] at hc;exact Nat.le_of_mul_le_mul_right (show(len+n)*inf.size≤cap'*inf.size by omega) hsp
        obtain⟨w',g1,g2,g3⟩:=inplace hro hst hcapn;exact⟨_,ρ,w',g1,g2, .slo _ _ _ _ p hp hcapn hc hbb,g3⟩
       |sle _ _ a q hq he=>rw [hp] at hq;cases hq;omega
      ·--it may not
       rename_i hfit;split at ha
       ·rename_i hbb;simp only [Option.map_eq_some_iff,Prod.mk.injEq] at ha;obtain⟨old,hold,rfl,rfl⟩:=ha;obtain⟨old',g1,g2,g3⟩:=olds hold;subst hro;have hrw:rw_ σ i:=⟨_,hget,rfl,by simp⟩
        have gr:=λcap' (hcap:cap'<len+n)=>grow (h.kill i).1 rfl (λ_ _ _ f=>(h.kill i).2.trans f) (base:=some ⟨p.b,p.o+off,none⟩) (cap:=cap') hcap hbb g1 g2 (g3 cap')
        cases hs with
        |plain v hf=>simp [qae] at hf
        |slc _ _ _ _ q hq hc=>exact absurd rfl hc
        |sle _ _ a q hq he=>
         have hold0:old= []:=List.eq_nil_of_length_eq_zero (by simpa using g2)
         subst hold0
         exact grow (h.kill i).1 rfl (λ_ _ _ f=>(h.kill i).2.trans f) (base:=some a) (len:=0) (cap:=0) (old:= []) (old':= []) (by omega) hbb (.nil ρ) (by simp) (λw' _=>by
          exact run_firstCells_some w' inf.size 0 a 0 0 [] (by simp) (λj v hv=>by simp at hv))
        |slo _ _ _ cap' q hq hn hc hbb=>
         rw [hp] at hq;cases hq;rw [hpz] at hc;by_cases hcapn:len+n≤cap'
         ·--in the same block
          obtain⟨_,cc,fz,b1,b2,b3,b4,b5⟩:=ho;have hmul:(len+n)*inf.size≤cap'*inf.size:=Nat.mul_le_mul_right _ hcapn;have hsum:len*inf.size+n*inf.size=(len+n)*inf.size:=(Nat.add_mul ..).symm;obtain⟨w',hr,wr⟩:=qdw P p.b (p.o+off+len*inf.size) e' fz l 0 cc w b1 (zad b5) (by omega) hone
          refine⟨.slice (some ⟨p.b,p.o+off,none⟩) (len+n) cap',ρ.set σ.n ⟨p.b,p.o+off,p.e-off,inf.size⟩,w',qg4 hx hcapn (λa ea=> ?_) (λea=>by cases ea), ?_⟩
          ·cases ea;rw [Addr.add_plain];exact hr
          ·have hb:=wr.at_ p.b;rw [if_pos rfl] at hb
           have hmv:=h.move hp hrw (p:=⟨p.b,p.o+off,p.e-off,inf.size⟩) rfl (o:= .cells (old++new) e' false) wr (by
            refine⟨(qe2 hi).symm,_,fz,hb, ?_, ?_,λk u=> ?_, ?_⟩
            ·simp;omega
            ·simp [g2,hlen];omega
            ·have hc':LR (ρ.set σ.n ⟨p.b,p.o+off,p.e-off,inf.size⟩) (old++new) (old'++l):=(g1.append hl).mono (h.set_le _);obtain⟨v',x1,x2⟩:=hc'.getElem? (List.getElem?_eq_getElem u);refine⟨v', ?_,x2⟩;rw [←x1];have ho1:old'.length=len*inf.size:=by rw [←g1.1];exact g2
             simp only [List.length_append,g2,hlen] at u;simp only [List.getElem?_toArray,List.getElem?_append,List.getElem?_take,List.getElem?_drop,List.length_take,List.length_append,Array.length_toList,Nat.add_zero,ho1];have a1:min (p.o+off+len*inf.size) cc.size=p.o+off+len*inf.size:=by omega
             simp only [a1];rw [if_pos (by omega)]
             by_cases k1:k<len*inf.size
             ·rw [if_pos (by omega),if_pos (by omega),if_pos k1]
              --the old cells,as0 they were read
              have hk:k<old.length:=by omega
              have hrd:=g3 cap' w (Sw.refl w);simp only [Builtin.firstCells] at hrd;have hold2:=hold;unfold ld at hold2;split at hold2
              ·rename_i hle2;have hcell:w.cell? ⟨p.b,p.o+off+k,none⟩=old'[k]? :=by
                have hlr:=run_loadCells (P:=P) w ⟨p.b,p.o+off,none⟩ (len*inf.size) (λj=>(w.cell? ⟨p.b,p.o+off+j,none⟩).getD undef) (λj hj=>by
                 rw [Addr.add_plain];obtain⟨v'',y1,_⟩:=b4 (off+j) (by omega)
                 rw [qcn b1,Nat.add_assoc,y1]
                 rfl)
                rw [hlr] at hrd;injection hrd with hrd _
                have:=congrArg (λa:Array Value=>a[k]?) hrd
                simp only [List.getElem?_toArray,List.getElem?_map,List.getElem?_range k1,Option.map_some] at this;rw [←this];obtain⟨v'',y1,_⟩:=b4 (off+k) (by omega)
                rw [qcn b1,Nat.add_assoc,y1]
                rfl
               rw [←hcell,qcn b1];simp
              ·cases hold2
             ·rw [if_neg (by omega),if_neg k1]
              congr 1
              omega
            ·exact b5.imp id λh=>⟨by have:=h.1;simp;omega,h.2⟩)
           refine⟨hmv.1, ?_,hmv.2⟩;have:=VR.slo (ρ:=ρ.set σ.n ⟨p.b,p.o+off,p.e-off,inf.size⟩) σ.n 0 (len+n) cap' _ (Rho.set_self ..) hcapn (by simp;omega) hbb
           simpa using this
         ·have:=gr cap' (by omega)
          simpa using this
       ·cases ha
     ·cases ha
    ·--closed
     rename_i hcap;split at ha
     ·rename_i hfit;split at ha
      ·rename_i hro;simp only [Option.map_eq_some_iff,Prod.mk.injEq] at ha;obtain⟨c',hst,rfl,rfl⟩:=ha;cases hs with
       |plain v hf=>simp [qae] at hf
       |slo _ _ _ cap' q hq hn hc hbb=>exact absurd rfl hcap
       |sle _ _ a q hq he=>exact absurd rfl hcap
       |slz _ _ a q hq=>omega
       |slc _ _ _ _ q hq hc=>
        rw [hp] at hq;cases hq;obtain⟨w',g1,g2,g3⟩:=inplace hro hst hfit;exact⟨_,ρ,w',g1,g2, .slc _ _ _ _ p hp hc,g3⟩
      ·cases ha
     ·rename_i hfit;split at ha
      ·rename_i hbb;simp only [Option.map_eq_some_iff,Prod.mk.injEq] at ha;obtain⟨old,hold,rfl,rfl⟩:=ha;obtain⟨old',g1,g2,g3⟩:=olds hold;cases hs with
       |plain v hf=>simp [qae] at hf
       |slo _ _ _ cap' q hq hn hc hbb=>exact absurd rfl hcap
       |sle _ _ a q hq he=>exact absurd rfl hcap
       |slz _ _ a q hq=>
        have hold0:old= []:=List.eq_nil_of_length_eq_zero (by simpa using g2)
        subst hold0
        exact grow h rfl (λ_ _ _ f=>f) (base:=some a) (len:=0) (cap:=0) (old:= []) (old':= []) (by omega) hbb (.nil ρ) (by simp) (λw' _=>by
         exact run_firstCells_some w' inf.size 0 a 0 0 [] (by simp) (λj v hv=>by simp at hv))
       |slc _ _ _ _ q hq hc=>
        rw [hp] at hq;cases hq;exact grow h rfl (λ_ _ _ f=>f) (base:=some ⟨p.b,p.o+off,none⟩) (cap:=cap) (by omega) hbb g1 g2 (g3 cap)
      ·cases ha
 ·cases ha
end
section
variable {P:Program} {ρ:Rho} {σ:CSt} {w:World}
theorem qmi (h:R P ρ σ w) {ts:Array TypeId} {ty:TypeId} {s s' x x' v:Value} {σ':CSt} (hs:VR ρ s s') (hx:VR ρ x x') (ha:qas P σ ts s x=some (v,σ')):
  VOk P ρ σ w (Builtin.append_ ts ty #[s',x']) v σ':=by
 have src:∀{t u e:TypeId} {inf:TypeInfo},ts[0]? =some t→ts[1]? =some u→qdv P t=some (e,inf)→((∃e',P.underlying u=some (.slice e'))∨P.underlying u=some .string)→
   (match qea x with|some n=>(qcz σ inf.size n x).bind λnew=>qeu P σ e inf s n new|none=>none)=some (v,σ')→VOk P ρ σ w (Builtin.append_ ts ty #[s',x']) v σ':=by
  intro t u e inf h0 h1 he hd ha;obtain⟨hu,hi⟩:=qd0 he;split at ha
  ·rename_i n hn;simp only [Option.bind_eq_some_iff] at ha;obtain⟨new,hf,ha⟩:=ha;obtain⟨l,g1,g2⟩:=qip h hx hf (.inl hn);exact qhh h hi hs ⟨t,u,h0,h1,hu,hi, .inr ⟨hd,ql1 hx hn,g2⟩⟩ g1 ha
  ·cases ha
 unfold qas at ha;split at ha
 ·rename_i t u h0 h1;split at ha
  ·rename_i e inf k he hk;obtain⟨hu,hi⟩:=qd0 he;split at ha
   ·rename_i k' n z hz;split at ha
    ·rename_i hc;obtain⟨c1,c2,c3,c4⟩:=hc;obtain rfl:=hx.int;have hb:0<inf.size∧0<inf.bytes:=by
      unfold qeu at ha;split at ha
      ·rename_i hq;exact⟨hq.2.2.1,hq.2.2.2.1⟩
      ·cases ha
     refine qhh h hi hs ⟨t,u,h0,h1,hu,hi, .inl ⟨k,k',z,hk,by rw [Int.toNat_of_nonneg c1], ?_,hb.2,hz,c3,hb.1,rfl⟩⟩ (LR.flat (qgz c4 _)) ha
     have:((n.toNat*inf.bytes:Nat):Int)≤2^47:=by push_cast;rw [Int.toNat_of_nonneg c1];exact c2
     exact_mod_cast this
    ·cases ha
   ·cases ha
  ·rename_i e inf e' he hk;exact src h0 h1 he (.inl ⟨e',hk⟩) ha
  ·rename_i e inf he hk;exact src h0 h1 he (.inr hk) ha
  ·cases ha
 ·cases ha
theorem qmd (h:R P ρ σ w) {base:Option Addr} {dl cap n:Nat} {d':Value} {new l:List Value} {σ':CSt} (hd:VR ρ (.slice base dl cap) d') (hl:LR ρ new l) (hone:∀v∈l,v.oneCell'=true)
  (hn:n≤dl) (h0:n=0→l= []) (ha:qj4 σ base n new=some σ'):
  ∃b c w',d'= .slice b dl c∧(∀a,b=some a→(storeCells a l 0).run P w= .ok () w')∧(b=none→w'=w)∧R P ρ σ' w'∧Frm ρ σ w ρ σ' w':=by
 have hd2:∃b c,d'= .slice b dl c:=by cases hd<;>exact⟨_,_,rfl⟩
 unfold qj4 at ha;split at ha
 ·rename_i e0;cases ha;obtain⟨b,c,rfl⟩:=hd2;rw [h0 e0];exact⟨b,c,w,rfl,λ_ _=>rfl,λ_=>rfl,h,Frm.refl ..⟩
 ·rename_i e0;split at ha
  ·rename_i i off;split at ha
   ·rename_i c e hcs;simp only [Option.map_eq_some_iff] at ha;obtain⟨c',hst,rfl⟩:=ha;have key:∀(p:Place) (cap':Nat),ρ i=some p→d'= .slice (some ⟨p.b,p.o+off,none⟩) dl cap'→
      ∃b c w',d'= .slice b dl c∧(∀a,b=some a→(storeCells a l 0).run P w= .ok () w')∧(b=none→w'=w)∧R P ρ (σ.put i (.cells c' e false)) w'∧Frm ρ σ w ρ (σ.put i (.cells c' e false)) w':=by
     intro p cap' hp hd3;obtain⟨w',y1,y2,y3⟩:=h.store hp (qe0 hcs) hst hl hone;exact⟨_,_,w',hd3,(λa ea=>by cases ea;exact y1),(λea=>by cases ea),y2,y3⟩
    cases hd with
    |plain v hf=>simp [qae] at hf
    |slc _ _ _ _ q hq hc=>exact key q _ hq rfl
    |slo _ _ _ _ q hq hn hc hbb=>exact key q _ hq rfl
    |sle _ _ a q hq he=>omega
    |slz _ _ a q hq=>omega
   ·cases ha
  ·cases ha
theorem qpd (h:R P ρ σ w) {ts:Array TypeId} {ty:TypeId} {d d' s s' v:Value} {σ':CSt} (hd:VR ρ d d') (hs:VR ρ s s') (ha:qmz P σ ts d s=some (v,σ')):
  VOk P ρ σ w (Builtin.copy_ ts ty #[d',s']) v σ':=by
 unfold qmz at ha;split at ha
 ·rename_i t sl base dl cap h0 hsl;split at ha
  ·rename_i e inf he;obtain⟨hu,hi⟩:=qd0 he;split at ha
   ·rename_i new hnew;split at ha
    ·rename_i hc;obtain⟨hlen,hcv⟩:=hc;simp only [Option.map_eq_some_iff,Prod.mk.injEq] at ha;obtain⟨σ'',hci,rfl,rfl⟩:=ha;obtain⟨l,g1,g2⟩:=qip h hs hnew (.inr ⟨sl,hsl,Nat.min_le_left _ _⟩);have hl0:=ql1 (P:=P) hs hsl w;have g2':=g2 w (Sw.refl w);have hll:l.length=Nat.min sl dl*inf.size:=by rw [←g1.1];exact hlen
     obtain⟨b,c,w',rfl,y1,y2,y3,y4⟩:=qmd h hd g1 (g1.all_cellv hcv) (Nat.min_le_right _ _) (λe0=>List.eq_nil_of_length_eq_zero (by rw [hll,show Nat.min sl dl=0 from e0,Nat.zero_mul])) hci
     refine⟨_,ρ,w', ?_,y3, .plain _ rfl,y4⟩;cases b with
     |none=>rw [y2 rfl];simp [Builtin.copy_,h0,run_underlying hu,hl0,sizeOf,typeInfo,hi,g2',goInt]
     |some a=>have:=y1 a rfl;simp [Builtin.copy_,h0,run_underlying hu,hl0,sizeOf,typeInfo,hi,g2',goInt,this]
    ·cases ha
   ·cases ha
  ·cases ha
 ·cases ha
theorem qqv (n:Nat) (z:Array Value):Builtin.zeroCells z n=(qbz z n).toArray:=by unfold qbz Builtin.zeroCells;simp only [Array.toArray_toList]
theorem qns (h:R P ρ σ w) {ts:Array TypeId} {ty:TypeId} {x x' v:Value} {σ':CSt} (hx:VR ρ x x') (ha:qjf P σ ts x=some (v,σ')):
  VOk P ρ σ w (Builtin.clear_ ts ty #[x']) v σ':=by
 unfold qjf at ha;split at ha
 ·rename_i t h0;split at ha
  ·rename_i e i off n cap hu;split at ha
   ·rename_i hn;cases ha;subst hn;have hd2:∃b c,x'= .slice b 0 c:=by
     cases hx with
     |plain v hf=>exact⟨_,_,rfl⟩
     |_=>exact⟨_,_,rfl⟩
    obtain⟨b,c,rfl⟩:=hd2;refine⟨.tuple #[],ρ,w, ?_,h, .junk _,Frm.refl ..⟩;cases b<;>simp [Builtin.clear_,h0,run_underlying hu]
   ·rename_i hn;split at ha
    ·rename_i inf c e' hi hcs;split at ha
     ·rename_i z hz;split at ha
      ·rename_i hc;obtain⟨hzs,hzf⟩:=hc;simp only [Option.map_eq_some_iff,Prod.mk.injEq] at ha;obtain⟨c',hst,rfl,rfl⟩:=ha;have key:∀(p:Place) (cap':Nat),ρ i=some p→x'= .slice (some ⟨p.b,p.o+off,none⟩) n cap'→VOk P ρ σ w (Builtin.clear_ ts ty #[x']) undef (σ.put i (.cells c' e' false)):=by
        intro p cap' hp hd2;have hfl:=qgz hzf n
        obtain⟨w',y1,y2,y3⟩:=h.store hp (qe0 hcs) hst (LR.flat hfl) (λu hu=>by
         have:=hfl u hu
         cases u<;>simp_all [qae,Value.oneCell'])
        subst hd2;refine⟨.tuple #[],ρ,w', ?_,y2, .junk _,y3⟩;have hn':n≠0:=hn;simp [Builtin.clear_,h0,run_underlying hu,zeroValue,typeInfo,hi,hz,qqv,y1]
       cases hx with
       |plain v hf=>simp [qae] at hf
       |slc _ _ _ _ q hq hc=>exact key q _ hq rfl
       |slo _ _ _ _ q hq hn hc hbb=>exact key q _ hq rfl
       |sle _ _ a q hq he=>omega
       |slz _ _ a q hq=>omega
      ·cases ha
     ·cases ha
    ·cases ha
  ·cases ha;rename_i e hu;obtain rfl:=hx.flat_eq rfl;refine⟨.tuple #[],ρ,w, ?_,h, .junk _,Frm.refl ..⟩;simp [Builtin.clear_,h0,run_underlying hu]
  ·rename_i kt et i hu;split at ha
   ·rename_i es clock hm;cases ha;have hget:=qo0 hm;obtain⟨p,hp,ho⟩:=h.live_of_get hget (by simp)
    obtain⟨p',hp',rfl⟩:=hx.mapv;rw [hp] at hp';cases hp';obtain⟨es',b1,b2,b3⟩:=ho;have hlt:p.b<w.heap.size:=(Array.getElem?_eq_some_iff.1 b1).1;have wr:=Wr.set w (.map #[] clock) hlt;have hb:=wr.at_ p.b;rw [if_pos rfl] at hb;obtain⟨r1,r2⟩:=h.write hp ⟨_,hget,rfl,by simp⟩ wr (o:= .map #[] clock) rfl (by simp) ⟨#[],hb,rfl,λj u _=>by simp at u⟩
    refine⟨.tuple #[],ρ,_, ?_,r1, .junk _,r2⟩;simp [Builtin.clear_,h0,run_underlying hu,getObj,setObj,Sem.run,b1]
   ·cases ha
  ·rename_i kt et hu;cases ha;obtain rfl:=hx.flat_eq rfl;refine⟨.tuple #[],ρ,w, ?_,h, .junk _,Frm.refl ..⟩;simp [Builtin.clear_,h0,run_underlying hu]
  ·cases ha
 ·cases ha
theorem R.newCells (h:R P ρ σ w) (e:TypeId) {c c':List Value} (hl:LR ρ c c'):∃p:Place,p.b=w.heap.size∧p.o=0∧p.e=c.length∧
  R P (ρ.set σ.n p) (σ.alloc (.cells c e false)) {w with heap:=w.heap.push (.cells c'.toArray e)}∧Frm ρ σ w (ρ.set σ.n p) (σ.alloc (.cells c e false)) {w with heap:=w.heap.push (.cells c'.toArray e)}:=by
 refine⟨⟨w.heap.size,0,c.length,P.cellsOf e⟩,rfl,rfl,rfl, ?_⟩;refine h.alloc (Wr.push w _) (Nat.le_refl _) ⟨rfl,c'.toArray,(0,0),by simp,by simp [hl.1],by simp,λk u=> ?_, .inl rfl⟩
 obtain⟨v',h1,h2⟩:=(hl.mono (h.set_le ⟨w.heap.size,0,c.length,P.cellsOf e⟩)).getElem? (List.getElem?_eq_getElem u);exact⟨v',by simpa using h1,h2⟩
theorem qk2 (h:R P ρ σ w) (e:TypeId) {v v':Value} (hv:AsR ρ v.cells v'.cells):
  ∃p:Place,p.o=0∧(newVar e v').run P w= .ok ⟨p.b,0,none⟩ {w with heap:=w.heap.push (.cells v'.cells e)}∧p.b=w.heap.size∧
   R P (ρ.set σ.n p) (σ.alloc (.cells v.cells.toList e false)) {w with heap:=w.heap.push (.cells v'.cells e)}∧Frm ρ σ w (ρ.set σ.n p) (σ.alloc (.cells v.cells.toList e false)) {w with heap:=w.heap.push (.cells v'.cells e)}:=by
 obtain⟨p,p1,p2,p3,r1,r2⟩:=h.newCells e hv.toList;simp only [Array.toArray_toList] at r1 r2;exact⟨p,p2,by simp [newVar,newRow,p1],p1,r1,r2⟩
theorem qoh (h:R P ρ σ w) {e:TypeId} {v:Value} {σ':CSt} (ha:qoj P σ e=some (v,σ')):VOk P ρ σ w (Instr.alloc e true (.tuple #[])) v σ':=by
 unfold qoj at ha;split at ha
 ·rename_i inf hi;split at ha
  ·rename_i z hz;split at ha
   ·rename_i hf;cases ha;have hzz:AsR ρ z.cells z.cells:=(LR.flat (List.all_eq_true.1 hf)).toArray|>λh=>by simpa using h
    obtain⟨p,p1,p2,p3,r1,r2⟩:=qk2 h e hzz;refine⟨.pointer (some ⟨p.b,0,none⟩),_,_, ?_,r1, ?_,r2⟩
    ·simp [Instr.alloc,qc5 hi hz,p2]
    ·have:=VR.ptr (ρ:=ρ.set σ.n p) σ.n 0 p (Rho.set_self ..);rw [p1] at this;simpa using this
   ·cases ha
  ·cases ha
 ·cases ha
theorem zbq (h:R P ρ σ w) (e:TypeId) {x x':Value} (hx:VR ρ x x') (hc:x.cells.toList.all cellv=true):VOk P ρ σ w (Instr.box e x') (.pointer (some ⟨σ.n,0,none⟩)) (σ.alloc (.cells x.cells.toList e false)):=by
 have hne:x≠ .tuple #[]:=by intro e;subst e;simp [Value.cells,cellv] at hc
 obtain⟨p,p1,p2,p3,r1,r2⟩:=qk2 h e (hx.cells hne);refine⟨.pointer (some ⟨p.b,0,none⟩),_,_, ?_,r1, ?_,r2⟩
 ·simp [Instr.box,p2]
 ·have:=VR.ptr (ρ:=ρ.set σ.n p) σ.n 0 p (Rho.set_self ..);rw [p1] at this;simpa using this
theorem qji (h:R P ρ σ w) {t:TypeId} {l l' c c' v:Value} {σ':CSt} (hl:VR ρ l l') (hc:VR ρ c c') (ha:qhr P σ t l c=some (v,σ')):
  VOk P ρ σ w (Instr.makeSlice t l' c') v σ':=by
 unfold qhr at ha;split at ha
 ·rename_i e inf k n k' m he;obtain⟨hu,hi⟩:=qd0 he;obtain rfl:=hl.int;obtain rfl:=hc.int;split at ha
  ·rename_i z hz;split at ha
   ·rename_i hc;obtain⟨c1,c2,c3,c4,c5,c6,c7⟩:=hc;cases ha;have e1:IntKind.i64.wrap n=n:=IntWalk.i64_in _ (by omega)
    have e2:IntKind.i64.wrap m=m:=IntWalk.i64_in _ (by omega)
    have hcells:((Array.range (m.toNat*inf.size)).map (z.cells[· %z.cells.size]!))=Builtin.zeroCells z.cells m.toNat:=by unfold Builtin.zeroCells;rw [c5]
    have hfl:=qgz c6 m.toNat;obtain⟨p,p1,p2,p3,r1,r2⟩:=h.newCells e (LR.flat hfl);have hz0:(qbz z.cells m.toNat).toArray=((Array.range (m.toNat*inf.size)).map (z.cells[· %z.cells.size]!)):=by rw [hcells,qqv]
    have hz1:(qbz z.cells m.toNat)=((Array.range (m.toNat*inf.size)).map (z.cells[· %z.cells.size]!)).toList:=by rw [←hz0]
    rw [hz1] at r1 r2;simp only [Array.toArray_toList] at r1 r2;refine⟨.slice (some ⟨w.heap.size,0,none⟩) n.toNat m.toNat,_,_, ?_,r1, ?_,r2⟩
    ·have b1:¬(m<0):=by omega
     have b2:¬(281474976710656<(inf.bytes:Int)*m):=by omega
     have b3:¬(n<0):=by omega
     have b4:¬(m<n):=by omega
     by_cases e0:m.toNat*inf.size=0
     ·have e0':(qbz z.cells m.toNat)= []:=List.eq_nil_of_length_eq_zero (by rw [qex,c5,e0])
      simp [Instr.makeSlice,run_underlying hu,asInt,asIntOf,typeInfo,hi,e1,e2,b1,b2,b3,b4,sizeOf,e0,newRow]
      congr 2;apply Array.ext<;>simp
     ·simp [Instr.makeSlice,run_underlying hu,asInt,asIntOf,typeInfo,hi,e1,e2,b1,b2,b3,b4,sizeOf,e0,newRow,zeroValue,hz]
    ·have hne:m.toNat≠qa1:=by unfold qa1;omega
     have:=VR.slc (ρ:=ρ.set σ.n p) σ.n 0 n.toNat m.toNat p (Rho.set_self ..) hne;rw [p1,p2] at this;simpa using this
   ·cases ha
  ·cases ha
 ·cases ha
end
def PsR (ρ:Rho) (ps qs:List (Nat×Value)):Prop:=ps.length=qs.length∧∀(i:Nat) (u:i<ps.length) (v:i<qs.length),(qs[i]).1=(ps[i]).1∧VR ρ (ps[i]).2 (qs[i]).2
theorem PsR.head {ρ:Rho} {p q:Nat×Value} {ps qs:List (Nat×Value)} (h:PsR ρ (p::ps) (q::qs)):q.1=p.1∧VR ρ p.2 q.2:=h.2 0 (by simp) (by simp)
theorem PsR.tail {ρ:Rho} {p q:Nat×Value} {ps qs:List (Nat×Value)} (h:PsR ρ (p::ps) (q::qs)):PsR ρ ps qs:=
 ⟨by simpa using h.1,λi u v=>h.2 (i+1) (Nat.succ_lt_succ u) (Nat.succ_lt_succ v)⟩
theorem AsR.getElem? {ρ:Rho} {as0 bs:Array Value} (h:AsR ρ as0 bs) {i:Nat} {v:Value} (hv:as0[i]? =some v):∃v',bs[i]? =some v'∧VR ρ v v':=by
 obtain⟨u,rfl⟩:=Array.getElem?_eq_some_iff.1 hv;have u':i<bs.size:=by have:=h.1;omega
 exact⟨bs[i],Array.getElem?_eq_getElem u',h.2 i u u'⟩
theorem AsR.of_getElem? {ρ:Rho} {as0 bs:Array Value} (h1:as0.size=bs.size) (h:∀(i:Nat) (v:Value),as0[i]? =some v→∃v',bs[i]? =some v'∧VR ρ v v'):AsR ρ as0 bs:=
 ⟨h1,λi u v=>by
  obtain⟨v',e,r⟩:=h i as0[i] (Array.getElem?_eq_getElem u);rw [Array.getElem?_eq_getElem v] at e;cases e
  exact r⟩
theorem AsR.set {ρ:Rho} {as0 bs:Array Value} (h:AsR ρ as0 bs) {v w:Value} (hv:VR ρ v w) (i:Nat):AsR ρ (as0.setIfInBounds i v) (bs.setIfInBounds i w):=
 AsR.of_getElem? (by simpa using h.1) λj u hu=>by
  rw [Array.getElem?_setIfInBounds] at hu⊢;by_cases e:i=j
  ·rw [if_pos e] at hu⊢;rw [←h.1];by_cases k:i<as0.size
   ·rw [if_pos k] at hu⊢;cases hu;exact⟨w,rfl,hv⟩
   ·rw [if_neg k] at hu;cases hu
  ·rw [if_neg e] at hu⊢;exact h.getElem? hu
theorem qzm {ρ:Rho} (off:Nat):∀(as0 bs:List Value) (n:Nat) (cs ds:Array Value),LR ρ as0 bs→AsR ρ cs ds→
  AsR ρ ((as0.zipIdx n).foldl (λcs x=>cs.setIfInBounds (off+x.2) x.1) cs) ((bs.zipIdx n).foldl (λcs x=>cs.setIfInBounds (off+x.2) x.1) ds)
 | [], [],_,_,_,_,h=>by simpa using h
 |a::as0,b::bs,n,cs,ds,hl,h=>by
  simp only [List.zipIdx_cons,List.foldl_cons];exact qzm off as0 bs (n+1) _ _ hl.tail (h.set hl.head _)
 | [],_::_,_,_,_,hl,_=>by have:=hl.1;simp at this
 |_::_, [],_,_,_,hl,_=>by have:=hl.1;simp at this
theorem qhd {ρ:Rho} (place:Nat→Option (Nat×Nat)):∀(ps qs:List (Nat×Value)) (cs ds out:Array Value),PsR ρ ps qs→(∀p∈ps,p.2.cells.toList.all cellv=true)→AsR ρ cs ds→
  Instr.fill place cs ps=some out→∃out',Instr.fill place ds qs=some out'∧AsR ρ out out'
 | [], [],cs,ds,out,_,_,h,hf=>by
  simp only [Instr.fill,Option.some.injEq] at hf⊢;subst hf;exact⟨ds,rfl,h⟩
 |(i,v)::ps,(j,u)::qs,cs,ds,out,hp,hc,h,hf=>by
  obtain⟨e1,e2⟩:=hp.head;simp only at e1 e2;subst e1;have hcv:=hc (j,v) (by simp)
  have hne:v≠ .tuple #[]:=by intro e;subst e;simp [Value.cells,cellv] at hcv
  have hvc:=e2.cells hne;simp only [Instr.fill] at hf⊢;split at hf
  ·cases hf
  ·rename_i off size hpl;split at hf
   ·cases hf
   ·rename_i hcond;have hcond':¬((u.cells.size≠size||decide (off+u.cells.size>ds.size))=true):=by rw [←hvc.1,←h.1];exact hcond
    simp only [hcond',if_false,Bool.false_eq_true];refine qhd place ps qs _ _ out hp.tail (λp hp=>hc p (by simp [hp])) ?_ hf
    have:=qzm off v.cells.toList u.cells.toList 0 cs ds hvc.toList h;rw [←Array.foldl_toList,←Array.foldl_toList,Array.toList_zipIdx,Array.toList_zipIdx];exact this
 | [],_::_,_,_,_,hl,_,_,_=>by have:=hl.1;simp at this
 |_::_, [],_,_,_,hl,_,_,_=>by have:=hl.1;simp at this
section
variable {P:Program} {ρ:Rho} {σ:CSt} {w:World}
theorem PsR.of_map {ρ:Rho} {ev ev':Operand→Value} (ps:Array (Nat×Operand)) (h:∀p∈ps,VR ρ (ev p.2) (ev' p.2)):
  PsR ρ (ps.map λp=>(p.1,ev p.2)).toList (ps.map λp=>(p.1,ev' p.2)).toList:=
 ⟨by simp,λi u v=>by
  simp only [Array.toList_map,List.getElem_map]
  exact⟨trivial,h _ (by simp)⟩⟩
theorem qky (w:World):∀(l:List Field) (pl:List (Nat×Nat)),qju P l=some pl→(l.mapM (m:=Sem) λf=>do pure (f.offset,←sizeOf f.type)).run P w= .ok pl w
 | [],pl,h=>by simp only [qju,Option.some.injEq] at h;subst h;simp
 |f::l,pl,h=>by
  simp only [qju] at h;split at h
  ·rename_i inf hi;simp only [Option.map_eq_some_iff] at h;obtain⟨r,hr,rfl⟩:=h;have ih:=qky w l r hr;simp only [List.mapM_cons,Sem.run_bind,qbp hi,Result.andThen_ok,Sem.run_pure,ih]
  ·cases h
theorem qol {t:TypeId} {ps qs:Array (Nat×Value)} {v:Value} (hp:PsR ρ ps.toList qs.toList) (ha:qli P t ps=some v) (w:World):∃v',(Instr.build t qs).run P w= .ok v' w∧VR ρ v v':=by
 unfold qli at ha;split at ha
 ·rename_i hall;have hc:∀p∈ps.toList,p.2.cells.toList.all cellv=true:=λp hp=>List.all_eq_true.1 hall p hp
  split at ha
  ·rename_i inf hi;split at ha
   ·rename_i z hz;split at ha
    ·rename_i hzf;have hzz:AsR ρ z.cells z.cells:=by simpa using(LR.flat (ρ:=ρ) (List.all_eq_true.1 hzf)).toArray
     split at ha
     ·rename_i fs hu;split at ha
      ·rename_i pl hpl;simp only [Option.map_eq_some_iff] at ha;obtain⟨out,hf,rfl⟩:=ha;obtain⟨out',g1,g2⟩:=qhd _ _ _ _ _ _ hp hc hzz hf;refine⟨.agg out', ?_, .agg _ _ g2.1 g2.2⟩;have hm:=qky (P:=P) w _ _ hpl;have hm2:(fs.mapM (m:=Sem) λf=>do pure (f.offset,←sizeOf f.type)).run P w= .ok pl.toArray w:=by
        rw [Array.mapM_eq_mapM_toList,Sem.run_map,hm]
        rfl
       simp only [Instr.build,Sem.run_bind,qc5 hi hz,Result.andThen_ok,run_underlying hu,hm2,g1,Sem.run_pure]
      ·cases ha
     ·rename_i len e hu;split at ha
      ·rename_i ie hie;simp only [Option.map_eq_some_iff] at ha;obtain⟨out,hf,rfl⟩:=ha;obtain⟨out',g1,g2⟩:=qhd _ _ _ _ _ _ hp hc hzz hf;refine⟨.agg out', ?_, .agg _ _ g2.1 g2.2⟩;simp only [Instr.build,Sem.run_bind,qc5 hi hz,Result.andThen_ok,run_underlying hu,qbp hie,g1,Sem.run_pure]
      ·cases ha
     ·cases ha
    ·cases ha
   ·cases ha
  ·cases ha
 ·cases ha
theorem qie (h:R P ρ σ w) {t:TypeId} {len:Nat} {ps qs:Array (Nat×Value)} {v:Value} {σ':CSt} (hp:PsR ρ ps.toList qs.toList) (ha:qe3 P σ t len ps=some (v,σ')):
  VOk P ρ σ w (Instr.buildSlice t len qs) v σ':=by
 unfold qe3 at ha;split at ha
 ·rename_i e inf he;obtain⟨hu,hi⟩:=qd0 he;split at ha
  ·rename_i hcond;obtain⟨hl24,hle,hall⟩:=hcond;have hc:∀p∈ps.toList,p.2.cells.toList.all cellv=true:=λp hp=>List.all_eq_true.1 hall p hp
   split at ha
   ·rename_i zero hzero;split at ha
    ·rename_i cs hf;cases ha;have hz:(∀v∈zero.toList,qae v=true)∧((len*inf.size=0∧zero= #[])∨(¬len*inf.size=0∧∃z,inf.zero=some z∧zero=z.cells)):=by
      split at hzero
      ·rename_i e0;cases hzero;exact⟨by simp, .inl ⟨e0,rfl⟩⟩
      ·rename_i e0;split at hzero
       ·rename_i z hz;split at hzero
        ·rename_i hzf;cases hzero;exact⟨List.all_eq_true.1 hzf, .inr ⟨e0,z,hz,rfl⟩⟩
        ·cases hzero
       ·cases hzero
     obtain⟨hzf,hzr⟩:=hz
     have hbase:AsR ρ ((Array.range (len*inf.size)).map (zero[· %zero.size]!)) ((Array.range (len*inf.size)).map (zero[· %zero.size]!)):=⟨rfl,λi u _=>by
      simp only [Array.getElem_map,Array.getElem_range];by_cases hp0:0<zero.size
      ·rw [getElem!_pos zero _ (Nat.mod_lt _ hp0)];exact .plain _ (hzf _ (by simp))
      ·have:zero= #[]:=by apply Array.eq_empty_of_size_eq_zero;omega
       subst this;rw [getElem!_neg _ _ (by simp)]
       exact .plain _ rfl⟩
     obtain⟨cs',g1,g2⟩:=qhd _ _ _ _ _ _ hp hc hbase hf;obtain⟨p,p1,p2,p3,r1,r2⟩:=h.newCells e g2.toList;simp only [Array.toArray_toList] at r1 r2;refine⟨.slice (some ⟨w.heap.size,0,none⟩) len len,_,_, ?_,r1, ?_,r2⟩
     ·have h24:¬(len*inf.size>2^24):=by omega
      have hlen:¬(16777216<len*inf.size):=by omega
      unfold Instr.buildSlice;simp only [Sem.run_bind,run_underlying hu,Result.andThen_ok,qbp hi];rw [if_neg h24];rcases hzr with⟨e0,rfl⟩|⟨e0,z,hz,rfl⟩
      ·rw [if_pos e0];simp only [Sem.run_bind,Sem.run_pure,Result.andThen_ok,g1,newRow,run_newObj]
      ·rw [if_neg e0];simp only [Sem.run_bind,qc5 hi hz,Sem.run_pure,Result.andThen_ok,g1,newRow,run_newObj]
     ·have hlo:len≠qa1:=by unfold qa1;omega
      have:=VR.slc (ρ:=ρ.set σ.n p) σ.n 0 len len p (Rho.set_self ..) hlo;rw [p1,p2] at this;simpa using this
    ·cases ha
   ·cases ha
  ·cases ha
 ·cases ha
end
theorem qk1:∀{l:List Value} {bs:List UInt8},qg1 l=some bs→∃ns:List Int,l=ns.map (Value.int .u8)∧bs=ns.map λn=>UInt8.ofNat n.toNat
 | [],bs,h=>by simp only [qg1,Option.some.injEq] at h;subst h;exact⟨[],rfl,rfl⟩
 |v::l,bs,h=>by
  cases v with
  |int k n=>
   cases k with
   |u8=>
    simp only [qg1,Option.map_eq_some_iff] at h;obtain⟨r,hr,rfl⟩:=h;obtain⟨ns,rfl,rfl⟩:=qk1 hr;exact⟨n::ns,rfl,rfl⟩
   |_=>simp [qg1] at h
  |_=>simp [qg1] at h
theorem qrh:∀(ns:List Int) (s:ByteArray),ns.foldl (λr n=>r.push (UInt8.ofNat n.toNat)) s=⟨(s.data.toList++ns.map λn=>UInt8.ofNat n.toNat).toArray⟩
 | [],s=>by simp
 |n::ns,s=>by
  rw [List.foldl_cons,qrh ns]
  congr 1
  simp [ByteArray.push]
section
variable {P:Program} {ρ:Rho} {σ:CSt} {w:World}
theorem qm2 (h:R P ρ σ w) {src dst:TypeId} {x x' v:Value} {σ':CSt} (hx:VR ρ x x') (ha:qd9 P σ src dst x= .val v σ'):VOk P ρ σ w (convert src dst x') v σ':=by
 unfold qd9 at ha;split at ha
 ·rename_i e hs hd;obtain rfl:=hx.flat_eq rfl;split at ha
  ·rename_i he;cases ha;exact⟨.string .empty,ρ,w,by rw [run_convert_bytes_string w src dst e _ _ _ hs he hd];rfl,h, .plain _ rfl,Frm.refl ..⟩
  ·cases ha
 ·rename_i e i off len cap hs hd;split at ha
  ·rename_i c e' ro he hcs;split at ha
   ·rename_i l hl;cases ha;simp only [Option.bind_eq_some_iff] at hl;obtain⟨cs,hld,hb⟩:=hl;obtain⟨ns,rfl,rfl⟩:=qk1 hb;obtain⟨p,hp,ho⟩:=h.live_of_get (qe0 hcs) (by simp)
    obtain⟨l',g1,g2,g3⟩:=ho.cellsRun hld;have hl':l'=ns.map (Value.int .u8):=by
     apply List.ext_getElem?;intro j;by_cases hj:j<(ns.map (Value.int .u8)).length
     ·have hj':j<l'.length:=by have:=g1.1;omega
      have:=g1.2 j hj hj';rw [List.getElem?_eq_getElem hj',List.getElem?_eq_getElem hj];simp only [List.getElem_map] at this⊢;rw [this.int]
     ·rw [List.getElem?_eq_none (by have:=g1.1;omega),List.getElem?_eq_none (by omega)]
    subst hl';have hlen:ns.length=len:=by simpa using g2
    have fin:∀(a:Addr) (cap':Nat),(loadCells a len).run P w= .ok (ns.map (Value.int .u8)).toArray w→VOk P ρ σ w (convert src dst (.slice (some a) len cap')) (.string ⟨(ns.map λn=>UInt8.ofNat n.toNat).toArray⟩) σ:=by
     intro a cap' hr;refine⟨_,ρ,w,by rw [run_convert_bytes_string w src dst e _ _ _ hs he hd];exact run_bytesToString w a len cap' ns hr,h, ?_,Frm.refl ..⟩
     rw [qrh];exact .plain _ rfl
    have key:∀cap',VOk P ρ σ w (convert src dst (.slice (some ⟨p.b,p.o+off,none⟩) len cap')) (.string ⟨(ns.map λn=>UInt8.ofNat n.toNat).toArray⟩) σ:=by
     intro cap';refine fin _ cap' ?_;have:=run_loadCells_list (P:=P) w ⟨p.b,p.o+off,none⟩ (ns.map (Value.int .u8)) g3
     rwa [g2] at this
    have zero:len=0→∀a cap',VOk P ρ σ w (convert src dst (.slice (some a) len cap')) (.string ⟨(ns.map λn=>UInt8.ofNat n.toNat).toArray⟩) σ:=by
     intro h0 a cap';refine fin a cap' ?_;have hns:ns= []:=List.eq_nil_of_length_eq_zero (by omega)
     subst hns;rw [h0]
     rfl
    cases hx with
    |plain v hf=>simp [qae] at hf
    |slc _ _ _ _ q hq hc=>rw [hp] at hq;cases hq;exact key _
    |slo _ _ _ _ q hq hn hc hbb=>rw [hp] at hq;cases hq;exact key _
    |sle _ _ a q hq he=>exact zero rfl _ _
    |slz _ _ a q hq=>exact zero rfl _ _
   ·cases ha
  ·cases ha
 ·rename_i e s hs hd;obtain rfl:=hx.string;split at ha
  ·rename_i inf he hi;split at ha
   ·rename_i hcond;obtain⟨hsz,hlt⟩:=hcond;cases ha;have hrun:=Lib.run_convert_string_bytes (P:=P) w src dst e s hs hd he;have hge:=grownCap_ge w s.size 0 e;have wr:Wr w (Lib.bytesWorld w e s) w.heap.size (.cells (Lib.bytesCells w e s) e ((Lib.bytesCells w e s).size,(Lib.bytesCells w e s).size+1)):=by
     refine⟨rfl,rfl,rfl,by rw [Lib.bytesWorld_size];omega,by rw [Lib.bytesWorld_size];omega,λk=> ?_⟩
     by_cases hk:k=w.heap.size
     ·rw [if_pos hk,hk];exact Lib.bytesWorld_at_new w e s
     ·rw [if_neg hk];rcases Nat.lt_or_ge k w.heap.size with h1|h1
      ·exact Lib.bytesWorld_at_old w e s k h1
      ·rw [Array.getElem?_eq_none (by rw [Lib.bytesWorld_size];omega),Array.getElem?_eq_none h1]
    have hbsz:(Lib.bytesCells w e s).size=grownCap w s.size 0 e:=by
     simp only [Lib.bytesCells,Array.size_append,Array.size_map,Array.size_replicate];have:s.data.size=s.size:=rfl;omega
    have hlen:(s.data.toList.map λb=>Value.int .u8 (b.toNat:Int)).length=s.size:=by simp
    obtain⟨r1,r2⟩:=h.alloc (p:=⟨w.heap.size,0,grownCap w s.size 0 e,1⟩) (o:= .cells (s.data.toList.map λb=> .int .u8 b.toNat) e false) wr (Nat.le_refl _) (by
     refine⟨by rw [qe2 hi,hsz],Lib.bytesCells w e s,((Lib.bytesCells w e s).size,(Lib.bytesCells w e s).size+1), ?_,by rw [hbsz,Nat.zero_add],by rw [hlen];exact hge,λk u=> ?_, .inr ⟨Nat.le_refl _,he⟩⟩
     ·have:=wr.at_ w.heap.size
      rwa [if_pos rfl] at this
     ·rw [hlen] at u;refine⟨_, ?_, .plain _ (by rw [List.getElem_map];rfl)⟩
      simp only [Nat.zero_add,Lib.bytesCells];rw [Array.getElem?_append_left (by simp;exact u)]
      simp
      exact⟨_,Array.getElem?_eq_getElem (by exact u),rfl⟩)
    refine⟨_,_,_,hrun,r1, ?_,r2⟩;have:=VR.slo (ρ:=ρ.set σ.n ⟨w.heap.size,0,grownCap w s.size 0 e,1⟩) σ.n 0 s.size (grownCap w s.size 0 e) _ (Rho.set_self ..) hge (by simp) (by have:=grownCap_le_maxLen w s.size 0 e (by simp only [maxLen];omega);simp only [maxLen] at this;simp only [qa1];omega)
    simpa using this
   ·cases ha
  ·cases ha
 ·rename_i e0 e i off len cap hs hd;split at ha
  ·rename_i c e1 he hg;split at ha
   ·rename_i hcond;obtain⟨rfl,hpos,rfl⟩:=hcond;cases ha;have e01:e0=e1:=by rw [hs] at hd;cases hd;rfl
    subst e01;obtain⟨p,hp,ho⟩:=h.live_of_get hg (by simp)
    obtain⟨hz,cc,fz,b1,b2,b3,b4,b5⟩:=ho;have key:∀o' cap',(convert src src (.slice (some ⟨p.b,o',none⟩) len cap')).run P w= .ok (.slice (some ⟨p.b,o',none⟩) len cap') (w.freeze ⟨p.b,cc.size,none⟩ 1):=by
     intro o' cap';have hsh:w.shape? p.b=some (e0,cc.size):=by simp [World.shape?,b1]
     simp [convert,run_underlying hs,run_underlying he,markStringish,hsh]
    have hlt:=(Array.getElem?_eq_some_iff.1 b1).1;have hfr:Wr w (w.freeze ⟨p.b,cc.size,none⟩ 1) p.b (.cells cc e0 (if fz.1==fz.2 then(cc.size,cc.size+1) else(min fz.1 cc.size,max fz.2 (cc.size+1)))):=by
     unfold World.freeze;rw [if_neg (by decide)]
     refine⟨rfl,rfl,rfl,by simp,by simpa using hlt,λk=> ?_⟩
     simp only [Array.getElem?_modify];by_cases hk:k=p.b
     ·subst hk;simp [b1]
     ·rw [if_neg hk,if_neg (Ne.symm hk)]
    obtain⟨r1,r2⟩:=h.write hp ⟨_,hg,rfl,by simp⟩ hfr (o:= .cells c e0 false) rfl (by simp) (by
     have hb:=hfr.at_ p.b;rw [if_pos rfl] at hb;refine⟨hz,cc,_,hb,b2,b3,b4, ?_⟩;by_cases hf:fz.1=fz.2
     ·simp [hf,he]
     ·rcases b5 with b5|b5
      ·exact absurd b5 hf
      ·have:(fz.1==fz.2)=false:=by simpa using hf
       rw [this];refine .inr ⟨?_,he⟩;have:=b5.1;simp
       omega)
    cases hx with
    |plain v hf=>simp [qae] at hf
    |slc a1 a2 a3 a4 q hq hc=>rw [hp] at hq;cases hq;exact⟨_,_,_,key _ _,r1, .slc _ _ _ _ p hp hc,r2⟩
    |slo a1 a2 a3 a4 q hq hn hc hbb=>rw [hp] at hq;cases hq;exact⟨_,_,_,key _ _,r1, .slo _ _ _ _ p hp hn hc hbb,r2⟩
    |sle _ _ a q hq he=>omega
    |slz _ _ a q hq=>omega
   ·cases ha
  ·cases ha
 ·cases ha
theorem VR.ptrS {a:Addr} {v:Value} (h:VR ρ (.pointer (some a)) v):∃a',v= .pointer (some a'):=by
 cases h with
 |plain v hf=>simp [qae] at hf
 |ptr=>exact⟨_,rfl⟩
theorem VR.slcS {a:Addr} {n c:Nat} {v:Value} (h:VR ρ (.slice (some a) n c) v):∃a' c',v= .slice (some a') n c':=by
 cases h with
 |plain v hf=>simp [qae] at hf
 |_=>exact⟨_,_,rfl⟩
theorem VR.funcS {f:Fn} {as0 cs:Array Value} {v:Value} (h:VR ρ (.func f as0 cs) v):∃g bs ds,v= .func g bs ds:=by
 cases h with
 |plain v hf=>simp [qae] at hf
 |func=>exact⟨_,_,_,rfl⟩
theorem VR.ifaceS {t:TypeId} {u v:Value} (h:VR ρ (.iface t u) v):∃u',v= .iface t u'∧VR ρ u u':=by
 cases h with
 |plain v hf=>simp [qae] at hf
 |iface _ _ w h=>exact⟨_,rfl,h⟩
theorem qmp {op:BinOp} {t:TypeId} {x x' y y' v:Value} {ox oy:Operand} (hx:VR ρ x x') (hy:VR ρ y y') (ha:qb6 P op t x y=some v) (w:World):
  (do eqGuard op t ox oy x' y';binOp op t x' y').run P w= .ok v w∧VR ρ v v:=by
 unfold qb6 at ha;split at ha
 ·rename_i hc;have key:(∀d,(Op.equalIn (d+1) t x' y').run P w= .ok false w)∧(∀op,(eqGuard op t ox oy x' y').run P w= .ok () w)∧(∀op,op= .eql∨op= .neq→binOp op t x' y'=(if op= .eql then(do pure (.bool (←Op.equal t x' y'))) else(do pure (.bool (!(←Op.equal t x' y')))))):=by
   unfold qg2 at hc;split at hc
   case h_11=>cases hc
   all_goals rename_i hu
   ·obtain⟨a,rfl⟩:=hx.ptrS;obtain rfl:=hy.flat_eq rfl;refine⟨λd=>by simp [Op.equalIn,run_underlying hu],λop=>by cases op<;>simp [eqGuard],λop ho=>by rcases ho with rfl|rfl<;>simp [binOp]⟩
   ·obtain⟨a,rfl⟩:=hy.ptrS;obtain rfl:=hx.flat_eq rfl;refine⟨λd=>by simp [Op.equalIn,run_underlying hu],λop=>by cases op<;>simp [eqGuard],λop ho=>by rcases ho with rfl|rfl<;>simp [binOp]⟩
   ·obtain⟨a,c,rfl⟩:=hx.slcS;obtain rfl:=hy.flat_eq rfl;refine⟨λd=>by simp [Op.equalIn,run_underlying hu],λop=>by cases op<;>simp [eqGuard],λop ho=>by rcases ho with rfl|rfl<;>simp [binOp]⟩
   ·obtain⟨a,c,rfl⟩:=hy.slcS;obtain rfl:=hx.flat_eq rfl;refine⟨λd=>by simp [Op.equalIn,run_underlying hu],λop=>by cases op<;>simp [eqGuard],λop ho=>by rcases ho with rfl|rfl<;>simp [binOp]⟩
   ·obtain⟨p,_,rfl⟩:=hx.mapv;obtain rfl:=hy.flat_eq rfl;refine⟨λd=>by simp [Op.equalIn,run_underlying hu],λop=>by cases op<;>simp [eqGuard],λop ho=>by rcases ho with rfl|rfl<;>simp [binOp]⟩
   ·obtain⟨p,_,rfl⟩:=hy.mapv;obtain rfl:=hx.flat_eq rfl;refine⟨λd=>by simp [Op.equalIn,run_underlying hu],λop=>by cases op<;>simp [eqGuard],λop ho=>by rcases ho with rfl|rfl<;>simp [binOp]⟩
   ·obtain⟨g,bs,ds,rfl⟩:=hx.funcS;obtain rfl:=hy.flat_eq rfl;refine⟨λd=>by simp [Op.equalIn,run_underlying hu],λop=>by cases op<;>simp [eqGuard],λop ho=>by rcases ho with rfl|rfl<;>simp [binOp]⟩
   ·obtain⟨g,bs,ds,rfl⟩:=hy.funcS;obtain rfl:=hx.flat_eq rfl;refine⟨λd=>by simp [Op.equalIn,run_underlying hu],λop=>by cases op<;>simp [eqGuard],λop ho=>by rcases ho with rfl|rfl<;>simp [binOp]⟩
   ·obtain⟨u,rfl,_⟩:=hx.ifaceS;obtain rfl:=hy.flat_eq rfl;refine⟨λd=>by simp [Op.equalIn,run_underlying hu],λop=>by cases op<;>simp [eqGuard],λop ho=>by rcases ho with rfl|rfl<;>simp [binOp]⟩
   ·obtain⟨u,rfl,_⟩:=hy.ifaceS;obtain rfl:=hx.flat_eq rfl;refine⟨λd=>by simp [Op.equalIn,run_underlying hu],λop=>by cases op<;>simp [eqGuard],λop ho=>by rcases ho with rfl|rfl<;>simp [binOp]⟩
  obtain⟨k0,k2,k3⟩:=key;have k1:(Op.equal t x' y').run P w= .ok false w:=k0 9999;split at ha
  ·cases ha;refine⟨?_, .plain _ rfl⟩;rw [k3 _ (.inl rfl)];simp [k2,k1]
  ·cases ha;refine⟨?_, .plain _ rfl⟩;rw [k3 _ (.inr rfl)];simp [k2,k1]
  ·cases ha
 ·cases ha
end
def EsR (ρ:Rho) (es es':Array MapEntry):Prop:=es.size=es'.size∧∀(i:Nat) (u:i<es.size) (v:i<es'.size),EntR ρ es[i] es'[i]
theorem EsR.getElem? {ρ:Rho} {es es':Array MapEntry} (h:EsR ρ es es') {i:Nat} {e:MapEntry} (he:es[i]? =some e):∃e',es'[i]? =some e'∧EntR ρ e e':=by
 obtain⟨u,rfl⟩:=Array.getElem?_eq_some_iff.1 he;have u':i<es'.size:=by have:=h.1;omega
 exact⟨es'[i],Array.getElem?_eq_getElem u',h.2 i u u'⟩
theorem EsR.of {ρ:Rho} {es es':Array MapEntry} (h1:es.size=es'.size) (h:∀(i:Nat) (e:MapEntry),es[i]? =some e→∃e',es'[i]? =some e'∧EntR ρ e e'):EsR ρ es es':=
 ⟨h1,λi u v=>by
  obtain⟨e',a,r⟩:=h i es[i] (Array.getElem?_eq_getElem u);rw [Array.getElem?_eq_getElem v] at a;cases a
  exact r⟩
theorem qlc {a b:ByteArray} (h:(a==b)=true):a=b:=by
 rw [beq_toListBytes] at h;have h2:=eq_of_beq h;simp only [ByteArray.toList_eq] at h2;cases a;cases b
 congr 1
 exact Array.ext' h2
theorem qx3 {kd:TypeDesc} {a b:Value} (h:Instr.sameNow kd a b=some true):b=a:=by
 unfold Instr.sameNow at h;split at h
 ·split at h
  ·rename_i e;simp at h;rw [e,h]
  ·cases h
 ·simp only [Option.some.injEq] at h;rw [(qlc h)]
 ·simp only [Option.some.injEq] at h;rw [eq_of_beq h]
 ·cases h
theorem qom {kd:TypeDesc} {a:Value} (h:Instr.sameNow kd a a=some true) (n:Nat):Instr.sameBits n a a=true:=by
 unfold Instr.sameNow at h;split at h<;>simp_all [Instr.sameBits]
theorem qih {ρ:Rho} (kd:TypeDesc) (k:Value):∀(l l':List MapEntry) (i:Nat) (r:Option (Nat×Value)),l.length=l'.length→(∀(j:Nat) (u:j<l.length) (v:j<l'.length),EntR ρ l[j] l'[j])→
  Instr.findNow kd k l i=some r→
  (r=none∧Instr.findNow kd k l' i=some none)∨(∃(j:Nat) (v v':Value) (e':MapEntry),r=some (i+j,v)∧Instr.findNow kd k l' i=some (some (i+j,v'))∧VR ρ v v'∧j<l.length∧l'[j]? =some e'∧e'.key=k∧Instr.sameNow kd k k=some true)
 | [], [],i,r,_,_,h=>by
  simp only [Instr.findNow,Option.some.injEq] at h;subst h;exact .inl ⟨rfl,rfl⟩
 |e::l,e'::l',i,r,hl,he,h=>by
  have h0:EntR ρ e e':=he 0 (by simp) (by simp)
  simp only [Instr.findNow] at h⊢;rw [h0.key];split at h
  ·rename_i hs;cases h;have:=qx3 hs;refine .inr ⟨0,_,_,e',rfl,rfl,h0.val,by simp,rfl,by rw [h0.key,this],by rw [←this];exact this▸hs⟩
  ·rename_i hs;rcases qih kd k l l' (i+1) r (by simpa using hl) (λj u v=>he (j+1) (Nat.succ_lt_succ u) (Nat.succ_lt_succ v)) h with⟨a,b⟩|⟨j,v,v',e'',a,b,c,d,f,g⟩
   ·exact .inl ⟨a,b⟩
   ·refine .inr ⟨j+1,v,v',e'',by rw [a];congr 2;omega,by rw [b];congr 3;omega,c,by simpa using d,by simpa using f,g⟩
  ·cases h
 | [],_::_,_,_,hl,_,_=>by simp at hl
 |_::_, [],_,_,hl,_,_=>by simp at hl
section
variable {P:Program} {ρ:Rho} {σ:CSt} {w:World}
theorem qd1 {kt:TypeId} {kd:TypeDesc} (h:qdb P kt=some kd):P.underlying kt=some kd∧(∀ms,kd≠ .interface ms)∧(∀n e,kd≠ .array n e)∧∀fs,kd≠ .struct fs:=by
 unfold qdb at h;split at h<;>cases h<;>simp_all
theorem qcl {kt:TypeId} {kd:TypeDesc} (hk:qdb P kt=some kd) (b:Bool) (k:Value) (w:World):(Instr.checkKey b 10000 kt k).run P w= .ok () w:=by
 have key:∀d,(Instr.checkKey b (d+1) kt k).run P w= .ok () w:=by
  intro d;unfold qdb at hk;split at hk
  all_goals first|cases hk;done|(rename_i hu;simp [Instr.checkKey,run_underlying hu])
 exact key 9999
theorem qdq {kt:TypeId} {kd:TypeDesc} (hu:P.underlying kt=some kd) {k:Value} {l:List MapEntry} {r:Option (Nat×Value)} (h:Instr.findNow kd k l 0=some r) (w:World):(Instr.findKey kt k l).run P w= .ok r w:=by
 simp [Instr.findKey,run_underlying hu,h]
theorem R.map (h:R P ρ σ w) {i:Nat} {es:Array MapEntry} {n:Nat} (hm:σ.maps i=some (es,n)):∃p es',ρ i=some p∧w.heap[p.b]? =some (.map es' n)∧EsR ρ es es':=by
 obtain⟨p,hp,ho⟩:=h.live_of_get (qo0 hm) (by simp)
 obtain⟨es',h1,h2,h3⟩:=ho;exact⟨p,es',hp,h1,h2,h3⟩
theorem R.setMap (h:R P ρ σ w) {i:Nat} {es:Array MapEntry} {n:Nat} (hm:σ.maps i=some (es,n)) {p:Place} (hp:ρ i=some p) {es₁ es₁':Array MapEntry} (n₁:Nat) (he:EsR ρ es₁ es₁'):
  R P ρ (σ.put i (.map es₁ n₁)) {w with heap:=w.heap.setIfInBounds p.b (.map es₁' n₁)}∧Frm ρ σ w ρ (σ.put i (.map es₁ n₁)) {w with heap:=w.heap.setIfInBounds p.b (.map es₁' n₁)}:=by
 have hget:=qo0 hm;have hlt:=h.lt i p hp ⟨_,hget,by simp⟩
 have wr:=Wr.set w (.map es₁' n₁) hlt;have hb:=wr.at_ p.b;rw [if_pos rfl] at hb;exact h.write hp ⟨_,hget,rfl,by simp⟩ wr rfl (by simp) ⟨es₁',hb,he.1,he.2⟩
theorem qdr {kt:TypeId} {k:Value} {es es':Array MapEntry} {r:Option (Nat×Value)} (he:EsR ρ es es') (h:qht P kt k es=some r):
  ∃kd,qdb P kt=some kd∧((r=none∧Instr.findNow kd k es'.toList 0=some none)∨(∃(j:Nat) (v v':Value) (e':MapEntry),r=some (j,v)∧Instr.findNow kd k es'.toList 0=some (some (j,v'))∧VR ρ v v'∧j<es.size∧es'[j]? =some e'∧e'.key=k∧Instr.sameNow kd k k=some true)):=by
 unfold qht at h;split at h
 ·rename_i kd hkd;refine⟨kd,hkd, ?_⟩;rcases qih (ρ:=ρ) kd k es.toList es'.toList 0 r (by simpa using he.1) (λj u v=>by simpa using he.2 j (by simpa using u) (by simpa using v)) h with h1|⟨j,v,v',e',h1,h2,h3,h4,h5,h6⟩
  ·exact .inl h1
  ·simp only [Nat.zero_add] at h1 h2;exact .inr ⟨j,v,v',e',h1,h2,h3,by simpa using h4,by simpa using h5,h6⟩
 ·cases h
theorem ql4 {t:TypeId} {z:Value} (h:qje P t=some z):(∃i,P.info? t=some i∧i.zero=some z)∧flat z=true:=by
 unfold qje at h;split at h
 ·rename_i inf hi;split at h
  ·rename_i z' hz;split at h
   ·rename_i hf;cases h;exact⟨⟨inf,hi,hz⟩,hf⟩
   ·cases h
  ·cases h
 ·cases h
theorem qma (h:R P ρ σ w) {t:TypeId} {m m' k k' v:Value} {ok:Bool} (hm:VR ρ m m') (hk:VR ρ k k') (ha:qbr P σ t m k ok=some v):
  ∃v',(Instr.lookup t m' k' ok).run P w= .ok v' w∧VR ρ v v':=by
 unfold qbr at ha;split at ha
 ·rename_i kt et hu;simp only at ha;split at ha
  ·rename_i es hes;split at ha
   ·rename_i hf;obtain rfl:=hk.flat_eq hf
    --the model's entries
    have hes':∃es',EsR ρ es es'∧((m'= .map none∧es'= #[])∨(∃r clock,m'= .map (some r)∧w.heap[r]? =some (.map es' clock))):=by
     split at hes
     ·cases hes;obtain rfl:=hm.flat_eq rfl;exact⟨#[],⟨rfl,λi u=>by simp at u⟩, .inl ⟨rfl,rfl⟩⟩
     ·rename_i i;simp only [Option.map_eq_some_iff,Prod.exists] at hes;obtain⟨es0,n0,hmm,rfl⟩:=hes;obtain⟨p,es',hp,h1,h2⟩:=h.map hmm;obtain⟨p',hp',rfl⟩:=hm.mapv;rw [hp] at hp';cases hp';exact⟨es',h2, .inr ⟨p.b,n0,rfl,h1⟩⟩
     ·cases hes
    obtain⟨es',he,hmem⟩:=hes';have fin1:∀(kd:TypeDesc),qdb P kt=some kd→∀(j:Nat) (u:Value),Instr.findNow kd k' es'.toList 0=some (some (j,u))→
      (Instr.lookup t m' k' ok).run P w= .ok (if ok then .tuple #[u, .bool true] else u) w:=by
     intro kd hkd j u hr;have hck:=λb=>qcl hkd b k' w
     have hfk:=qdq (qd1 hkd).1 hr w;rcases hmem with⟨rfl,rfl⟩|⟨r0,clock,rfl,hr0⟩
     ·simp [Instr.findNow] at hr
     ·have hg:(getObj r0).run P w= .ok (.map es' clock) w:=by simp [getObj,Sem.run,hr0]
      simp [Instr.lookup,run_underlying hu,hg,hck,hfk]
    have fin0:∀(kd:TypeDesc),qdb P kt=some kd→Instr.findNow kd k' es'.toList 0=some none→∀(z:Value),(zeroValue et).run P w= .ok z w→
      (Instr.lookup t m' k' ok).run P w= .ok (if ok then .tuple #[z, .bool false] else z) w:=by
     intro kd hkd hr z hz;have hck:=λb=>qcl hkd b k' w
     have hfk:=qdq (qd1 hkd).1 hr w;rcases hmem with⟨rfl,rfl⟩|⟨r0,clock,rfl,hr0⟩
     ·simp only [Instr.lookup,Sem.run_bind,run_underlying hu,Result.andThen_ok,Sem.run_pure,hck,hfk,hz]
     ·have hg:(getObj r0).run P w= .ok (.map es' clock) w:=by simp [getObj,Sem.run,hr0]
      simp only [Instr.lookup,Sem.run_bind,run_underlying hu,Result.andThen_ok,hg,Sem.run_pure,hck,hfk,hz]
    split at ha
    ·rename_i j vj hfk;cases ha;obtain⟨kd,hkd,⟨h1,_⟩|⟨j',v1,v1',e',h1,h2,h3,_⟩⟩:=qdr he hfk
     ·cases h1
     ·cases h1;have:=fin1 kd hkd _ _ h2;refine⟨_,this, ?_⟩;cases ok with
      |true=>exact .tuple _ _ rfl λi u _=>(by
        have:i=0∨i=1:=by simp at u;omega
        rcases this with rfl|rfl
        ·exact h3
        ·exact .plain _ rfl)
      |false=>exact h3
    ·rename_i hfk;simp only [Option.map_eq_some_iff] at ha;obtain⟨z,hz,rfl⟩:=ha;obtain⟨⟨inf,hi,hzz⟩,hzf⟩:=ql4 hz;obtain⟨kd,hkd,⟨_,h2⟩|⟨j',v1,v1',e',h1,_⟩⟩:=qdr he hfk
     ·have:=fin0 kd hkd h2 z (qc5 hi hzz w);refine⟨_,this, ?_⟩;cases ok with
      |true=>exact .tuple _ _ rfl λi u _=>(by
        have:i=0∨i=1:=by simp at u;omega
        rcases this with rfl|rfl
        ·exact .of_flat hzf
        ·exact .plain _ rfl)
      |false=>exact .of_flat hzf
     ·cases h1
    ·cases ha
   ·cases ha
  ·cases ha
 ·cases ha
theorem qhg (h:R P ρ σ w) {t:TypeId} {m m' k k' v v':Value} {σ':CSt} (hm:VR ρ m m') (hk:VR ρ k k') (hv:VR ρ v v') (ha:qdh P σ t m k v=some σ'):
  ∃w',(Instr.mapUpdate t m' k' v').run P w= .ok () w'∧R P ρ σ' w'∧Frm ρ σ w ρ σ' w':=by
 unfold qdh at ha;split at ha
 ·rename_i kt et i hu;split at ha
  ·rename_i es clock hmm;split at ha
   ·rename_i hf;obtain rfl:=hk.flat_eq hf;obtain⟨p,es',hp,h1,he⟩:=h.map hmm;obtain⟨p',hp',rfl⟩:=hm.mapv;rw [hp] at hp';cases hp';have hg:(getObj p.b).run P w= .ok (.map es' clock) w:=by simp [getObj,Sem.run,h1]
    have hset:∀(o:Obj),(setObj p.b o).run P w= .ok () {w with heap:=w.heap.setIfInBounds p.b o}:=λo=>by simp [setObj,Sem.run,h1]
    split at ha
    ·rename_i j vj hfk;cases ha;obtain⟨kd,hkd,⟨h2,_⟩|⟨j',v1,v1',e',h2,h3,h4,h5,h6,h7,h8⟩⟩:=qdr he hfk
     ·cases h2
     ·cases h2;have he2:EsR ρ (es.modify j λe=>{e with key:=k',val:=v}) (es'.modify j λe=>{e with key:=k',val:=v'}):=by
       refine EsR.of (by simpa using he.1) λi e hi=> ?_
       rw [Array.getElem?_modify] at hi⊢;by_cases ej:j=i
       ·rw [if_pos ej] at hi⊢;simp only [Option.map_eq_some_iff] at hi;obtain⟨e0,ha,rfl⟩:=hi;obtain⟨e1,hb,hr⟩:=he.getElem? ha;exact⟨{key:=k',val:=v',born:=e1.born},by rw [hb];rfl,EntR.mk rfl hf hr.born hv⟩
       ·rw [if_neg ej] at hi⊢;exact he.getElem? hi
      obtain⟨r1,r2⟩:=h.setMap hmm hp clock he2;refine⟨_, ?_,r1,r2⟩;have hsb:=qom h8 10000;simp only [Instr.mapUpdate,Sem.run_bind,run_underlying hu,Result.andThen_ok,hg,qcl hkd,qdq (qd1 hkd).1 h3,h6,Option.map_some,Option.getD_some,h7,Instr.keyThatStays,hsb,if_true,Sem.run_pure,hset]
    ·rename_i hfk;cases ha;obtain⟨kd,hkd,⟨_,h3⟩|⟨j',v1,v1',e',h2,_⟩⟩:=qdr he hfk
     ·have he2:EsR ρ (es.push {key:=k',val:=v,born:=clock}) (es'.push {key:=k',val:=v',born:=clock}):=by
       refine EsR.of (by simpa using he.1) λi e hi=> ?_
       rw [Array.getElem?_push] at hi⊢;rw [←he.1];by_cases ej:i=es.size
       ·rw [if_pos ej] at hi⊢;cases hi;exact⟨_,rfl,⟨rfl,hf,rfl,hv⟩⟩
       ·rw [if_neg ej] at hi⊢;exact he.getElem? hi
      obtain⟨r1,r2⟩:=h.setMap hmm hp (clock+1) he2;refine⟨_, ?_,r1,r2⟩;simp only [Instr.mapUpdate,Sem.run_bind,run_underlying hu,Result.andThen_ok,hg,qcl hkd,qdq (qd1 hkd).1 h3,hset]
     ·cases h2
    ·cases ha
   ·cases ha
  ·cases ha
 ·cases ha
theorem qmn (h:R P ρ σ w) {ts:Array TypeId} {ty:TypeId} {m m' k k':Value} {σ':CSt} (hm:VR ρ m m') (hk:VR ρ k k') (ha:qha P σ ts m k=some σ'):
  ∃w',(Builtin.delete_ ts ty #[m',k']).run P w= .ok undef w'∧R P ρ σ' w'∧Frm ρ σ w ρ σ' w':=by
 unfold qha at ha;split at ha
 ·rename_i t h0;split at ha
  ·rename_i kt et i hu;split at ha
   ·rename_i es clock hmm;split at ha
    ·rename_i hf;obtain rfl:=hk.flat_eq hf;obtain⟨p,es',hp,h1,he⟩:=h.map hmm;obtain⟨p',hp',rfl⟩:=hm.mapv;rw [hp] at hp';cases hp';have hg:(getObj p.b).run P w= .ok (.map es' clock) w:=by simp [getObj,Sem.run,h1]
     have hset:∀(o:Obj),(setObj p.b o).run P w= .ok () {w with heap:=w.heap.setIfInBounds p.b o}:=λo=>by simp [setObj,Sem.run,h1]
     split at ha
     ·rename_i j vj hfk;cases ha;obtain⟨kd,hkd,⟨h2,_⟩|⟨j',v1,v1',e',h2,h3,h4,h5,h6,h7,h8⟩⟩:=qdr he hfk
      ·cases h2
      ·cases h2;have he2:EsR ρ (es.eraseIdxIfInBounds j) (es'.eraseIdxIfInBounds j):=by
        have hs:=he.1;have hj2:j<es'.size:=by omega
        rw [Array.eraseIdxIfInBounds_eq,Array.eraseIdxIfInBounds_eq,dif_pos h5,dif_pos hj2];refine EsR.of (by simp [hs]) λi e hi=> ?_
        rw [Array.getElem?_eraseIdx] at hi⊢;by_cases ij:i<j
        ·rw [if_pos ij] at hi⊢;exact he.getElem? hi
        ·rw [if_neg ij] at hi⊢;exact he.getElem? hi
       obtain⟨r1,r2⟩:=h.setMap hmm hp clock he2;refine⟨_, ?_,r1,r2⟩;simp [Builtin.delete_,h0,run_underlying hu,hg,qcl hkd,qdq (qd1 hkd).1 h3,hset]
       rfl
     ·rename_i hfk;cases ha;obtain⟨kd,hkd,⟨_,h3⟩|⟨j',v1,v1',e',h2,_⟩⟩:=qdr he hfk
      ·obtain⟨r1,r2⟩:=h.setMap hmm hp clock he;refine⟨_, ?_,r1,r2⟩;simp [Builtin.delete_,h0,run_underlying hu,hg,qcl hkd,qdq (qd1 hkd).1 h3,hset]
       rfl
      ·cases h2
     ·cases ha
    ·cases ha
   ·cases ha
  ·rename_i kt et hu;split at ha
   ·rename_i hc;cases ha;obtain⟨hf,hks⟩:=hc;obtain⟨kd,hkd⟩:=Option.isSome_iff_exists.1 hks;obtain rfl:=hm.flat_eq rfl;refine⟨w, ?_,h,Frm.refl ..⟩;simp [Builtin.delete_,h0,run_underlying hu,qcl hkd]
    rfl
   ·cases ha
  ·cases ha
 ·cases ha
theorem qu3 (h:R P ρ σ w) {ts:Array TypeId} {ty:TypeId} {x x' v:Value} (hx:VR ρ x x') (ha:qqx P σ ts x=some v):(Builtin.len_ ts ty #[x']).run P w= .ok v w∧VR ρ v v:=by
 unfold qqx at ha;split at ha
 ·rename_i t h0;split at ha
  ·rename_i s hu;cases ha;obtain rfl:=hx.string;exact⟨by simp [Builtin.len_,h0,run_underlying hu,goInt], .plain _ rfl⟩
  ·rename_i e b n c hu;cases ha;have:∃b c,x'= .slice b n c:=by cases hx<;>exact⟨_,_,rfl⟩
   obtain⟨b,c,rfl⟩:=this;exact⟨by simp [Builtin.len_,h0,run_underlying hu,goInt], .plain _ rfl⟩
  ·rename_i kt et hu;cases ha;obtain rfl:=hx.flat_eq rfl;exact⟨by simp [Builtin.len_,h0,run_underlying hu,goInt], .plain _ rfl⟩
  ·rename_i kt et i hu;simp only [Option.map_eq_some_iff,Prod.exists] at ha;obtain⟨es,n,hmm,rfl⟩:=ha;obtain⟨p,es',hp,h1,he⟩:=h.map hmm;obtain⟨p',hp',rfl⟩:=hx.mapv;rw [hp] at hp';cases hp';refine⟨?_, .plain _ rfl⟩;have hg:(getObj p.b).run P w= .ok (.map es' n) w:=by simp [getObj,Sem.run,h1]
   simp [Builtin.len_,h0,run_underlying hu,hg,goInt,he.1]
  ·cases ha
 ·cases ha
end
def ElR (ρ:Rho) (l l':List MapEntry):Prop:=l.length=l'.length∧∀(j:Nat) (u:j<l.length) (v:j<l'.length),EntR ρ l[j] l'[j]
theorem ElR.cons {ρ:Rho} {e e':MapEntry} {l l':List MapEntry} (h:EntR ρ e e') (k:ElR ρ l l'):ElR ρ (e::l) (e'::l'):=
 ⟨by simp [k.1],λi u v=>by
  cases i with
  |zero=>exact h
  |succ i=>exact k.2 i (Nat.lt_of_succ_lt_succ u) (Nat.lt_of_succ_lt_succ v)⟩
theorem EsR.toList {ρ:Rho} {es es':Array MapEntry} (h:EsR ρ es es'):ElR ρ es.toList es'.toList:=⟨by simpa using h.1,λj u v=>by simpa using h.2 j (by simpa using u) (by simpa using v)⟩
theorem ElR.ind {ρ:Rho} {Pr:List MapEntry→List MapEntry→Prop} (h0:Pr [] []) (hc:∀e e' l l',EntR ρ e e'→ElR ρ l l'→Pr l l'→Pr (e::l) (e'::l')):∀{l l':List MapEntry},ElR ρ l l'→Pr l l'
 | [], [],_=>h0
 |e::l,e'::l',h=>by
  have ht:ElR ρ l l':=⟨by simpa using h.1,λj u v=>h.2 (j+1) (Nat.succ_lt_succ u) (Nat.succ_lt_succ v)⟩
  exact hc e e' l l' (h.2 0 (by simp) (by simp)) ht (ElR.ind h0 hc ht)
 | [],_::_,h=>by have:=h.1;simp at this
 |_::_, [],h=>by have:=h.1;simp at this
theorem ElR.filter {ρ:Rho} (p:Nat→Bool) {l l':List MapEntry} (h:ElR ρ l l'):ElR ρ (l.filter λe=>p e.born) (l'.filter λe=>p e.born):=by
 refine ElR.ind (Pr:=λl l'=>ElR ρ (l.filter λe=>p e.born) (l'.filter λe=>p e.born)) ⟨rfl,λj u=>by simp at u⟩ (λe e' l l' he _ ih=> ?_) h
 simp only [List.filter_cons,he.born];split
 ·exact ElR.cons he ih
 ·exact ih
theorem ElR.all {ρ:Rho} (p:Nat→Bool) {l l':List MapEntry} (h:ElR ρ l l'):(l.all λe=>p e.born)=(l'.all λe=>p e.born):=by
 refine ElR.ind (Pr:=λl l'=>(l.all λe=>p e.born)=(l'.all λe=>p e.born)) rfl (λe e' l l' he _ ih=> ?_) h
 simp only [List.all_cons,he.born,ih]
theorem ElR.append {ρ:Rho} {a a' b b':List MapEntry} (h:ElR ρ a a') (k:ElR ρ b b'):ElR ρ (a++b) (a'++b'):=by
 refine ElR.ind (Pr:=λa a'=>ElR ρ (a++b) (a'++b')) (by simpa using k) (λe e' l l' he _ ih=>ElR.cons he ih) h
theorem ElR.find {ρ:Rho} (p:Nat→Bool) {l l':List MapEntry} (h:ElR ρ l l') {e:MapEntry} (he:l.find? (λe=>p e.born)=some e):∃e',l'.find? (λe=>p e.born)=some e'∧EntR ρ e e':=by
 revert he
 refine ElR.ind (Pr:=λl l'=>l.find? (λe=>p e.born)=some e→∃e',l'.find? (λe=>p e.born)=some e'∧EntR ρ e e') (by simp) (λe0 e0' l l' h0 _ ih hf=> ?_) h
 simp only [List.find?_cons,h0.born] at hf⊢;split at hf
 ·cases hf;exact⟨_,rfl,h0⟩
 ·exact ih hf
theorem ElR.getElem? {ρ:Rho} {l l':List MapEntry} (h:ElR ρ l l') {i:Nat} {e:MapEntry} (he:l[i]? =some e):∃e',l'[i]? =some e'∧EntR ρ e e':=by
 obtain⟨u,rfl⟩:=List.getElem?_eq_some_iff.1 he;have u':i<l'.length:=by have:=h.1;omega
 exact⟨l'[i],List.getElem?_eq_getElem u',h.2 i u u'⟩
def qlb (l:List MapEntry) (since:Nat) (seen:Array Nat):List (Option MapEntry):=
 (if(((l.filter λe=> !seen.contains e.born).filter λe=>e.born<since)).isEmpty then [none] else [])++
  (((l.filter λe=> !seen.contains e.born).filter λe=>e.born<since)++((l.filter λe=> !seen.contains e.born).filter λe=>e.born≥since)).map some
theorem qc4 (es:Array MapEntry) (since:Nat) (seen:Array Nat):(mapNext es since seen).toList=qlb es.toList since seen:=by
 unfold mapNext qlb;simp only [Array.toList_append,Array.toList_map,Array.toList_filter]
 congr 1
 have:(Array.filter (λe=>decide (e.born<since)) (Array.filter (λe=> !seen.contains e.born) es)).isEmpty=(List.filter (λe=>decide (e.born<since)) (List.filter (λe=> !seen.contains e.born) es.toList)).isEmpty:=by
  rw [←Array.isEmpty_toList,Array.toList_filter,Array.toList_filter]
 rw [this];split<;>rfl
theorem qth {ρ:Rho} {l l':List MapEntry} (h:ElR ρ l l') (since:Nat) (seen:Array Nat):(qlb l since seen).length=(qlb l' since seen).length∧
  (∀(j:Nat) (e:MapEntry),(qlb l since seen)[j]? =some (some e)→∃e',(qlb l' since seen)[j]? =some (some e')∧EntR ρ e e')∧∀(j:Nat),(qlb l since seen)[j]? =some none→(qlb l' since seen)[j]? =some none:=by
 have hl:=h.filter (λb=> !seen.contains b)
 have ho:=hl.filter (λb=>decide (b<since))
 have hn:=hl.filter (λb=>decide (b≥since))
 have ha:=ho.append hn;unfold qlb;have he:((l.filter λe=> !seen.contains e.born).filter λe=>decide (e.born<since)).isEmpty=((l'.filter λe=> !seen.contains e.born).filter λe=>decide (e.born<since)).isEmpty:=by
  rw [Bool.eq_iff_iff];simp only [List.isEmpty_iff_length_eq_zero];rw [ho.1]
 rw [←he];generalize ((l.filter λe=> !seen.contains e.born).filter λe=>decide (e.born<since)).isEmpty=b
 generalize ((l.filter λe=> !seen.contains e.born).filter λe=>decide (e.born<since))++((l.filter λe=> !seen.contains e.born).filter λe=>decide (e.born≥since))=A at ha
 generalize ((l'.filter λe=> !seen.contains e.born).filter λe=>decide (e.born<since))++((l'.filter λe=> !seen.contains e.born).filter λe=>decide (e.born≥since))=B at ha
 generalize hX:(if b=true then [none] else([]:List (Option MapEntry)))=X
 have hX':∀x∈X,x=none:=by rw [←hX];cases b<;>simp
 refine⟨by simp [ha.1],λj e hj=> ?_,λj hj=> ?_⟩
 ·rw [List.getElem?_append] at hj⊢;split at hj
  ·have:=hX' _ (List.mem_of_getElem? hj);cases this
  ·rename_i hlt;rw [if_neg hlt];simp only [List.getElem?_map,Option.map_eq_some_iff,Option.some.injEq] at hj⊢;obtain⟨e0,h0,rfl⟩:=hj;obtain⟨e1,h1,h2⟩:=ha.getElem? h0;exact⟨e1,⟨e1,h1,rfl⟩,h2⟩
 ·rw [List.getElem?_append] at hj⊢;split at hj
  ·rename_i hlt;rw [if_pos hlt];exact hj
  ·simp only [List.getElem?_map,Option.map_eq_some_iff] at hj;obtain⟨e0,h0,h1⟩:=hj;cases h1
section
variable {P:Program} {ρ:Rho} {σ:CSt} {w:World}
theorem R.newObj (h:R P ρ σ w) {o:CObj} {o':Obj} (ho:∀ρ':Rho,ρ.le ρ'→∀w',w'.heap[w.heap.size]? =some o'→OR P ρ' ⟨w.heap.size,0,0,0⟩ w' o):
  R P (ρ.set σ.n ⟨w.heap.size,0,0,0⟩) (σ.alloc o) {w with heap:=w.heap.push o'}∧Frm ρ σ w (ρ.set σ.n ⟨w.heap.size,0,0,0⟩) (σ.alloc o) {w with heap:=w.heap.push o'}:=
 h.alloc (Wr.push w o') (Nat.le_refl _) (ho _ (h.set_le _) _ (by simp))
theorem qoe (h:R P ρ σ w) {t:TypeId} {x x' v:Value} {σ':CSt} (hx:VR ρ x x') (ha:qg3 P σ t x=some (v,σ')):VOk P ρ σ w (Instr.range t x') v σ':=by
 have ptr:VR (ρ.set σ.n ⟨w.heap.size,0,0,0⟩) (.pointer (some ⟨σ.n,0,none⟩)) (.pointer (some ⟨w.heap.size,0,none⟩)):=VR.ptr σ.n 0 ⟨w.heap.size,0,0,0⟩ (Rho.set_self ..);unfold qg3 at ha;split at ha
 ·rename_i s hu;cases ha;obtain rfl:=hx.string;obtain⟨r1,r2⟩:=h.newObj (o:= .siter s 0) (o':= .stringIter s 0) (fun ρ' _ w' hw=>⟨hw,rfl⟩)
  exact⟨_,_,_,by simp only [Instr.range,Sem.run_bind,run_underlying hu,Result.andThen_ok,Sem.run_pure,run_newObj],r1,ptr,r2⟩
 ·rename_i kt et hu;cases ha;obtain rfl:=hx.flat_eq rfl;obtain⟨r1,r2⟩:=h.newObj (o:= .miter none 0 #[] 0) (o':= .mapIter none 0 #[] 0) (fun ρ' _ w' hw=>⟨rfl,none,hw,rfl⟩)
  exact⟨_,_,_,by simp only [Instr.range,Sem.run_bind,run_underlying hu,Result.andThen_ok,Sem.run_pure,run_newObj],r1,ptr,r2⟩
 ·rename_i kt et m hu;split at ha
  ·rename_i es clock hmm;cases ha;obtain⟨p,es',hp,h1,he⟩:=h.map hmm;obtain⟨p',hp',rfl⟩:=hx.mapv;rw [hp] at hp';cases hp';obtain⟨r1,r2⟩:=h.newObj (o:= .miter (some m) clock #[] clock) (o':= .mapIter (some p.b) clock #[] clock) (fun ρ' hle w' hw=>⟨rfl,some p.b,hw,p,hle _ _ hp,rfl⟩)
   have hg:(getObj p.b).run P w= .ok (.map es' clock) w:=by simp [getObj,Sem.run,h1]
   exact⟨_,_,_,by simp only [Instr.range,Sem.run_bind,run_underlying hu,Result.andThen_ok,hg,Sem.run_pure,run_newObj],r1,ptr,r2⟩
  ·cases ha
 ·cases ha
theorem qxr (h:R P ρ σ w) {it it' v:Value} {s:Bool} {ty:TypeId} {σ':CSt} (hx:VR ρ it it') (ha:qej σ it s= .val v σ'):VOk P ρ σ w (Instr.next it' s ty) v σ':=by
 unfold qej at ha;split at ha
 ·rename_i r;obtain⟨p,hp,rfl⟩:=hx.place;split at ha
  ·rename_i str pos hg;have ho:=h.obj r _ p hg hp;obtain⟨h1,h2⟩:=ho;have hgo:(getObj p.b).run P w= .ok (.stringIter str pos) w:=by simp [getObj,Sem.run,h1]
   split at ha
   ·rename_i hlt;cases ha;have hl:=(Array.getElem?_eq_some_iff.1 h1).1;have wr:=Wr.set w (.stringIter str (pos+(Utf8.decode str pos).2)) hl;have hb:=wr.at_ p.b;rw [if_pos rfl] at hb;obtain⟨r1,r2⟩:=h.write hp ⟨_,hg,rfl,by simp⟩ wr (o:= .siter str (pos+(Utf8.decode str pos).2)) rfl (by simp) ⟨hb,h2⟩
    refine⟨_,ρ,_, ?_,r1, .tuple #[.bool true, .int .i64 pos, .int .i32 (Utf8.decode str pos).1] #[.bool true, .int .i64 pos, .int .i32 (Utf8.decode str pos).1] rfl λi u _=> ?_,r2⟩
    ·have hso:∀o,(setObj p.b o).run P w= .ok () {w with heap:=w.heap.setIfInBounds p.b o}:=λo=>by simp [setObj,Sem.run,h1]
     simp only [Instr.next,h2,Nat.zero_add,Sem.run_bind,hgo,Result.andThen_ok,hlt,if_true,hso,Sem.run_pure,goInt]
    ·have:i=0∨i=1∨i=2:=by simp at u;omega
     rcases this with rfl|rfl|rfl<;>exact .plain _ rfl
   ·rename_i hlt;cases ha;refine⟨.tuple #[.bool false],ρ,w, ?_,h, .tuple _ _ rfl λi u _=> ?_,Frm.refl ..⟩
    ·simp only [Instr.next,h2,Nat.zero_add,Sem.run_bind,hgo,Result.andThen_ok];rw [if_neg hlt]
     rfl
    ·have:i=0:=by simp at u;omega
     subst this;exact .plain _ rfl
  ·rename_i since seen last hg;cases ha;have ho:=h.obj r _ p hg hp;obtain⟨h2,m',h1,rfl⟩:=ho;have hgo:(getObj p.b).run P w= .ok (.mapIter none since seen last) w:=by simp [getObj,Sem.run,h1]
   refine⟨.tuple #[.bool false],ρ,w, ?_,h, .tuple _ _ rfl λi u _=> ?_,Frm.refl ..⟩
   ·simp only [Instr.next,h2,Nat.zero_add,Sem.run_bind,hgo,Result.andThen_ok,Sem.run_pure]
   ·have:i=0:=by simp at u;omega
    subst this;exact .plain _ rfl
  ·split at ha
   ·split at ha<;>cases ha
   ·cases ha
  ·cases ha
 ·cases ha
theorem qtc (h:R P ρ σ w) {it it':Value} {s:Bool} {ty:TypeId} {n:Nat} {k:Nat→Value×CSt} (hx:VR ρ it it') (ha:qej σ it s= .pick n k):
  ∃j,(n≤1→j=0)∧(1<n→j<n)∧VOk P ρ σ w (Instr.next it' s ty) (k j).1 (k j).2:=by
 unfold qej at ha;split at ha
 ·rename_i r;obtain⟨p,hp,rfl⟩:=hx.place;split at ha
  ·split at ha<;>cases ha
  ·cases ha
  ·rename_i m since seen last hg;have ho:=h.obj r _ p hg hp;obtain⟨h2,m',h1,q,hq,rfl⟩:=ho;have hgo:(getObj p.b).run P w= .ok (.mapIter (some q.b) since seen last) w:=by simp [getObj,Sem.run,h1]
   split at ha
   ·rename_i es clock hmm;obtain⟨q',es',hq',h3,he⟩:=h.map hmm;rw [hq] at hq';cases hq';have hgm:(getObj q.b).run P w= .ok (.map es' clock) w:=by simp [getObj,Sem.run,h3]
    split at ha
    ·cases ha
    ·rename_i hguard;cases ha;have hel:=he.toList;have hguard':¬((!seen.isEmpty&& !es'.isEmpty&&es'.all λx=>decide (x.born≥last))=true):=by
      have e1:es'.isEmpty=es.isEmpty:=by rw [Array.isEmpty,Array.isEmpty,he.1]
      have e2:(es'.all λx=>decide (x.born≥last))=(es.all λx=>decide (x.born≥last)):=by
       rw [←Array.all_toList,←Array.all_toList];exact(hel.all λb=>decide (b≥last)).symm
      rw [e1,e2];exact hguard
     obtain⟨n1,n2,n3⟩:=qth hel since seen;have sz:(mapNext es since seen).size=(mapNext es' since seen).size:=by rw [←Array.length_toList,←Array.length_toList,qc4,qc4,n1]
     --the model's pick
     have hrun:∀(j:Nat) (w1:World),Sw w w1→(choose (.mapNext (mapNext es' since seen).size)).run P w= .ok j w1→
       (∀e',(mapNext es' since seen)[j]? =some (some e')→(Instr.next (.pointer (some ⟨p.b,p.o+0,none⟩)) false ty).run P w= .ok (.tuple #[.bool true,e'.key,e'.val]) {w1 with heap:=w1.heap.setIfInBounds p.b (.mapIter (some q.b) since (seen.push e'.born) clock)})∧
       ((mapNext es' since seen)[j]? =some none→(Instr.next (.pointer (some ⟨p.b,p.o+0,none⟩)) false ty).run P w= .ok (.tuple #[.bool false]) w1):=by
      intro j w1 sw hch;have hso:∀o,(setObj p.b o).run P w1= .ok () {w1 with heap:=w1.heap.setIfInBounds p.b o}:=λo=>by
       have:w1.heap[p.b]? =some (.mapIter (some q.b) since seen last):=by rw [sw.heap];exact h1
       simp [setObj,Sem.run,this]
      unfold mapNext at hch⊢;refine⟨λe' hj=> ?_,λhj=> ?_⟩
      ·simp only [Instr.next,h2,Nat.zero_add,Sem.run_bind,hgo,hgm,Result.andThen_ok];rw [if_neg hguard'];simp only [Sem.run_bind,Result.andThen_ok,Sem.run_pure,hch,hj,hso]
      ·simp only [Instr.next,h2,Nat.zero_add,Sem.run_bind,hgo,hgm,Result.andThen_ok];rw [if_neg hguard'];simp only [Sem.run_bind,Result.andThen_ok,Sem.run_pure,hch,hj]
     --what follows
     have fin:∀(j:Nat) (w1:World),Sw w w1→(choose (.mapNext (mapNext es' since seen).size)).run P w= .ok j w1→j<(mapNext es since seen).size→
       VOk P ρ σ w (Instr.next (.pointer (some ⟨p.b,p.o+0,none⟩)) false ty)
        (match(mapNext es since seen)[j]? with|some (some e)=>(Value.tuple #[.bool true,e.key,e.val],σ.put r (.miter (some m) since (seen.push e.born) clock))|_=>(.tuple #[.bool false],σ)).1
        (match(mapNext es since seen)[j]? with|some (some e)=>(Value.tuple #[.bool true,e.key,e.val],σ.put r (.miter (some m) since (seen.push e.born) clock))|_=>(.tuple #[.bool false],σ)).2:=by
      intro j w1 sw hch hj;obtain⟨g1,g2⟩:=hrun j w1 sw hch;cases hc:(mapNext es since seen)[j]? with
      |none=>rw [Array.getElem?_eq_none_iff] at hc;omega
      |some c=>
       have hcl:(qlb es.toList since seen)[j]? =some c:=by rw [←qc4];simpa using hc
       cases c with
       |none=>
        have:=n3 j hcl;have hc':(mapNext es' since seen)[j]? =some none:=by rw [←qc4] at this;simpa using this
        obtain⟨r1,r2⟩:=h.same sw;refine⟨.tuple #[.bool false],ρ,w1,g2 hc',r1, .tuple _ _ rfl λi u _=> ?_,r2⟩
        have:i=0:=by simp at u;omega
        subst this;exact .plain _ rfl
       |some e=>
        obtain⟨e',x1,x2⟩:=n2 j e hcl;have hc':(mapNext es' since seen)[j]? =some (some e'):=by rw [←qc4] at x1;simpa using x1
        obtain⟨r1,r2⟩:=h.same sw;have hl:p.b<w1.heap.size:=by rw [sw.heap];exact(Array.getElem?_eq_some_iff.1 h1).1
        have wr:=Wr.set w1 (.mapIter (some q.b) since (seen.push e'.born) clock) hl;have hb:=wr.at_ p.b;rw [if_pos rfl] at hb;obtain⟨r3,r4⟩:=r1.write hp ⟨_,hg,rfl,by simp⟩ wr (o:= .miter (some m) since (seen.push e.born) clock) rfl (by simp) ⟨h2,some q.b,by rw [x2.born] at hb⊢;exact hb,q,hq,rfl⟩
        refine⟨_,ρ,_,g1 e' hc',r3, .tuple #[.bool true,e.key,e.val] _ rfl λi u _=> ?_,r2.trans r4⟩
        have:i=0∨i=1∨i=2:=by simp at u;omega
        rcases this with rfl|rfl|rfl
        ·exact .plain _ rfl
        ·show VR ρ e.key e'.key
         rw [x2.key];exact .plain _ x2.kf
        ·exact x2.val
     have hpos:0<(mapNext es since seen).size:=by
      rw [←Array.length_toList,qc4];unfold qlb;by_cases hb:((es.toList.filter λe=> !seen.contains e.born).filter λe=>decide (e.born<since)).isEmpty=true
      ·simp only [List.length_append];rw [if_pos hb];simp only [List.length_cons];omega
      ·have:0<((es.toList.filter λe=> !seen.contains e.born).filter λe=>decide (e.born<since)).length:=by
        rw [List.length_pos_iff];intro e;rw [e] at hb;simp at hb
       simp only [List.length_append,List.length_map];omega
     by_cases hn:(mapNext es since seen).size≤1
     ·refine⟨0,λ_=>rfl,λhh=>by omega,fin 0 w (Sw.refl w) ?_ hpos⟩
      rw [←sz];simp [choose,Sem.run,Question.forced];intro hh;omega
     ·refine⟨w.tape w.drawn (.mapNext (mapNext es since seen).size) %(mapNext es since seen).size,λhh=>by omega,λ_=>Nat.mod_lt _ hpos,fin _ {w with drawn:=w.drawn+1} ⟨rfl,rfl,rfl,rfl⟩ ?_ (Nat.mod_lt _ hpos)⟩
      rw [←sz];simp [choose,Sem.run,Question.forced,hn,Question.cut]
   ·cases ha
  ·cases ha
 ·cases ha
theorem qos (h:R P ρ σ w) {it it' v:Value} (hx:VR ρ it it') (ha:qgs σ it=some v):∃v',(Instr.entry it').run P w= .ok v' w∧VR ρ v v':=by
 unfold qgs at ha;split at ha
 ·rename_i r;obtain⟨p,hp,rfl⟩:=hx.place;split at ha
  ·rename_i m since seen stepped hg;have ho:=h.obj r _ p hg hp;obtain⟨h2,m',h1,q,hq,rfl⟩:=ho;have hgo:(getObj p.b).run P w= .ok (.mapIter (some q.b) since seen stepped) w:=by simp [getObj,Sem.run,h1]
   split at ha
   ·rename_i es clock stamp hmm hb;obtain⟨q',es',hq',h3,he⟩:=h.map hmm;rw [hq] at hq';cases hq';have hgm:(getObj q.b).run P w= .ok (.map es' clock) w:=by simp [getObj,Sem.run,h3]
    split at ha
    ·rename_i hcs;subst hcs;simp only [Option.map_eq_some_iff] at ha;obtain⟨e,hf,rfl⟩:=ha;have hf':es.toList.find? (λe=>e.born==stamp)=some e:=by rw [←hf];simp
     obtain⟨e',x1,x2⟩:=he.toList.find (λb=>b==stamp) hf'
     have x1':es'.find? (λe=>e.born==stamp)=some e':=by rw [←x1];simp
     refine⟨.tuple #[e'.key,e'.val], ?_, .tuple #[e.key,e.val] _ rfl λi u _=> ?_⟩
     ·simp [Instr.entry,h2,hgo,hgm,hb,x1']
     ·have:i=0∨i=1:=by simp at u;omega
      rcases this with rfl|rfl
      ·show VR ρ e.key e'.key
       rw [x2.key];exact .plain _ x2.kf
      ·exact x2.val
    ·cases ha
   ·cases ha
  ·cases ha
 ·cases ha
theorem qme {x x' v:Value} {xt t:TypeId} {ok:Bool} (hx:VR ρ x x') (ha:qon P x t ok=some v) (w:World):∃v',(Instr.typeAssert x' xt t ok).run P w= .ok v' w∧VR ρ v v':=by
 unfold qon at ha;split at ha
 ·cases ha
 ·cases ha
 ·rename_i d tt u hni hd;obtain⟨u',rfl,hu'⟩:=hx.ifaceS;split at ha
  ·rename_i e;cases ha;subst e;cases ok with
   |true=>
    refine⟨.tuple #[u', .bool true], ?_, .tuple #[u, .bool true] _ rfl λi hi _=> ?_⟩
    ·cases d<;>first|exact absurd rfl (hni _)|simp [Instr.typeAssert,run_underlying hd]
    ·have:i=0∨i=1:=by simp at hi;omega
     rcases this with rfl|rfl
     ·exact hu'
     ·exact .plain _ rfl
   |false=>
    refine⟨u', ?_,hu'⟩;cases d<;>first|exact absurd rfl (hni _)|simp [Instr.typeAssert,run_underlying hd]
  ·rename_i e;split at ha
   ·rename_i hok;simp only [Option.map_eq_some_iff] at ha;obtain⟨z,hz,rfl⟩:=ha;obtain⟨⟨inf,hi,hzz⟩,hzf⟩:=ql4 hz;have hz':=qc5 (P:=P) hi hzz w;subst hok;refine⟨.tuple #[z, .bool false], ?_, .tuple #[z, .bool false] _ rfl λi hi _=> ?_⟩
    ·cases d<;>first|exact absurd rfl (hni _)|simp [Instr.typeAssert,run_underlying hd,e,hz']
    ·have:i=0∨i=1:=by simp at hi;omega
     rcases this with rfl|rfl
     ·exact .of_flat hzf
     ·exact .plain _ rfl
   ·cases ha
 ·cases ha
end
theorem qhn {P:Program} {σ:CSt} {ts:Array TypeId} {i off n:Nat}:qpc P σ ts i off n= .fail∨∃p k,qpc P σ ts i off n= .every p k:=by
 unfold qpc
 repeat' split
 all_goals first|exact .inl rfl|exact .inr ⟨_,_,rfl⟩
theorem za7 {P:Program} {σ σ':CSt} {ts:Array TypeId} {i off n:Nat} {v:Value}:qpc P σ ts i off n≠ .val v σ':=by
 rcases qhn (P:=P) (σ:=σ) (ts:=ts) (i:=i) (off:=off) (n:=n) with h1|⟨p1,kk,h1⟩<;>rw [h1]<;>simp
section
variable {P:Program} {ρ:Rho} {σ:CSt} {w:World}
theorem VR.funcF {f:FuncId} {as0 cs:Array Value} {v:Value} (h:VR ρ (.func (.func f) as0 cs) v):∃bs ds,v= .func (.func f) bs ds∧AsR ρ as0 bs∧AsR ρ cs ds:=by
 cases h with
 |plain v hf=>simp [qae] at hf
 |func _ g _ bs _ ds hf h1 h2 h3 h4=>cases hf;exact⟨bs,ds,rfl,⟨h1,h2⟩,⟨h3,h4⟩⟩
theorem VR.funcY {l:Nat} {as0 cs:Array Value} {v:Value} (h:VR ρ (.func (.yield l) as0 cs) v):∃p bs ds,ρ l=some p∧v= .func (.yield p.b) bs ds∧AsR ρ as0 bs∧AsR ρ cs ds:=by
 cases h with
 |plain v hf=>simp [qae] at hf
 |func _ g _ bs _ ds hf h1 h2 h3 h4=>
  cases hf with
  |same _ hn=>exact absurd rfl (hn _)
  |yield _ p hp=>exact⟨p,bs,ds,hp,rfl,⟨h1,h2⟩,⟨h3,h4⟩⟩
theorem VR.tupleS {vs:Array Value} {v:Value} (h:VR ρ (.tuple vs) v):vs= #[]∨∃ws,v= .tuple ws∧AsR ρ vs ws:=by
 cases h with
 |junk=>exact .inl rfl
 |plain v hf=>simp [qae] at hf
 |tuple _ ws h1 h2=>exact .inr ⟨ws,rfl,h1,h2⟩
theorem qe7.of_v {s:Sem Value} {v:Value} {σ':CSt} (h:VOk P ρ σ w s v σ'):qe7 P ρ σ w ((do pure (Next.value (←s)):Sem Next).run P w) v σ':=by
 obtain⟨v',ρ',w',h1,h2,h3,h4⟩:=h;exact⟨_,v',ρ',w',by simp only [Sem.run_bind,h1,Result.andThen_ok,Sem.run_pure], .inl rfl,h2,h3,h4⟩
theorem qe7.of_r (h:R P ρ σ w) {s:Sem Value} {v:Value} (hs:∃v',s.run P w= .ok v' w∧VR ρ v v'):qe7 P ρ σ w ((do pure (Next.value (←s)):Sem Next).run P w) v σ:=by
 obtain⟨v',h1,h2⟩:=hs;exact .of_v ⟨v',ρ,w,h1,h,h2,Frm.refl ..⟩
theorem qe7.of_u {s:Sem Unit} {σ':CSt} (hs:∃w',s.run P w= .ok () w'∧R P ρ σ' w'∧Frm ρ σ w ρ σ' w'):qe7 P ρ σ w ((do s;pure Next.skip:Sem Next).run P w) undef σ':=by
 obtain⟨w',h1,h2,h3⟩:=hs;exact⟨_,undef,ρ,w',by simp only [Sem.run_bind,h1,Result.andThen_ok,Sem.run_pure], .inr ⟨rfl,rfl⟩,h2, .junk _,h3⟩
theorem qdu {x:Option Value} {σ σ':CSt} {v:Value} (h:OpR.ofV σ x= .val v σ'):x=some v∧σ'=σ:=by
 cases x<;>simp [OpR.ofV] at h;exact⟨by rw [h.1],h.2.symm⟩
theorem qhm {x:Option (Value×CSt)} {σ':CSt} {v:Value} (h:OpR.ofP x= .val v σ'):x=some (v,σ'):=by
 cases x<;>simp [OpR.ofP] at h;rw [←h.1,←h.2]
theorem qno {x:Option CSt} {σ':CSt} {v:Value} (h:OpR.ofS x= .val v σ'):x=some σ'∧v=undef:=by
 cases x<;>simp [OpR.ofS] at h;exact⟨by rw [h.2],h.1.symm⟩
theorem que {a b:OpR} {σ':CSt} {v:Value} (h:a.or b= .val v σ'):a= .val v σ'∨(a= .fail∧b= .val v σ'):=by
 cases a<;>simp [OpR.or] at h⊢<;>exact h
theorem qr3.of_map {ev ev':Operand→Value} (o:Option Operand) (h:∀x,o=some x→VR ρ (ev x) (ev' x)):qr3 ρ (o.map ev) (o.map ev'):=by
 cases o with
 |none=>trivial
 |some x=>exact h x rfl
theorem AsR.of_map {ev ev':Operand→Value} (as0:Array Operand) (h:∀x∈as0,VR ρ (ev x) (ev' x)):AsR ρ (as0.map ev) (as0.map ev'):=
 ⟨by simp,λi u v=>by simp only [Array.getElem_map];exact h _ (by simp)⟩
theorem qxb (h:R P ρ σ w) {ev ev':Operand→Value} {o:Oper} {c:Call} (hop:o.op= .call c) (he:∀x∈o.op.operands,VR ρ (ev x) (ev' x)) {v:Value} {σ':CSt}
  (ha:qbs P σ ev o c= .val v σ'):qe7 P ρ σ w ((execOp ev' o).run P w) v σ':=by
 have hflat:∀{v σ'},qbc P σ ev o= .val v σ'→qe7 P ρ σ w ((execOp ev' o).run P w) v σ':=λhf=>qk5 h (by rw [hop];intros;simp) he hf
 unfold qbs at ha;split at ha
 ·cases ha
 ·cases ha
 ·rename_i b hb;have hargs:∀(n:Nat) (l:List Value),(c.args.map ev).toList=l→AsR ρ (c.args.map ev) (c.args.map ev'):=λ_ _ _=>AsR.of_map _ λx hx=>he x (by rw [hop];simp [Op.operands,Call.operands,hb,hx])
  have hrel:=(hargs 0 _ rfl).toList
  --the model's call
  have hex:execOp ev' o=Go.builtin b c.argTypes o.type (c.args.map fun| .const _=>true|_=>false) (c.args.map ev'):=by
   simp only [execOp,hop,resolve,hb]
   rfl
  have one:∀{x},(c.args.map ev).toList= [x]→∃x',(c.args.map ev')= #[x']∧VR ρ x x':=by
   intro x hx;rw [hx] at hrel;have hl:=hrel.1
   match hy:(c.args.map ev').toList,hl with
   | [x'],_=>
    rw [hy] at hrel;exact⟨x',by rw [←Array.toArray_toList (xs:=c.args.map ev'),hy],hrel.head⟩
  have two:∀{x y},(c.args.map ev).toList= [x,y]→∃x' y',(c.args.map ev')= #[x',y']∧VR ρ x x'∧VR ρ y y':=by
   intro x y hx;rw [hx] at hrel;have hl:=hrel.1
   match hy:(c.args.map ev').toList,hl with
   | [x',y'],_=>
    rw [hy] at hrel;exact⟨x',y',by rw [←Array.toArray_toList (xs:=c.args.map ev'),hy],hrel.head,hrel.tail.head⟩
  split at ha
  ·rename_i x hx;obtain⟨x',hx',hxr⟩:=one hx;obtain⟨ha2,rfl⟩:=qdu ha;rw [hex,hx'];exact qe7.of_r h ⟨v,(qu3 h hxr ha2)⟩
  ·rename_i s x hx;obtain⟨s',x',hx',hsr,hxr⟩:=two hx;rw [hex,hx'];exact qe7.of_v (qmi h hsr hxr (qhm ha))
  ·rename_i d s hx;obtain⟨d',s',hx',hdr,hsr⟩:=two hx;rw [hex,hx'];exact qe7.of_v (qpd h hdr hsr (qhm ha))
  ·rename_i x hx;obtain⟨x',hx',hxr⟩:=one hx;rw [hex,hx'];exact qe7.of_v (qns h hxr (qhm ha))
  ·rename_i m k hx;obtain⟨m',k',hx',hmr,hkr⟩:=two hx;rw [hex,hx'];obtain⟨ha2,rfl⟩:=qno ha;obtain⟨w',h1,h2,h3⟩:=qmn h hmr hkr ha2 (ty:=o.type);exact qe7.of_v ⟨undef,ρ,w',h1,h2, .junk _,h3⟩
  ·exact hflat ha
  ·rename_i i off n k hx;split at ha
   ·rcases qhn (P:=P) (σ:=σ) (ts:=c.argTypes) (i:=i) (off:=off) (n:=n) with h1|⟨p1,kk,h1⟩
    ·rw [h1] at ha;cases ha
    ·rw [h1] at ha;cases ha
   ·rename_i hk;split at ha
    ·rename_i t h0;split at ha
     ·rename_i e hu;cases ha;obtain⟨x',hx',hxr⟩:=one hx;rw [hex,hx'];have:∃b,x'= .slice b n k:=by
       cases hxr with
       |plain v hf=>exact⟨_,rfl⟩
       |slc=>exact⟨_,rfl⟩
       |slo=>exact absurd rfl hk
       |sle=>exact absurd rfl hk
       |slz=>exact⟨_,rfl⟩
      obtain⟨b,rfl⟩:=this;exact qe7.of_r h ⟨.int .i64 k,by simp [Builtin.cap_,h0,run_underlying hu,goInt], .plain _ rfl⟩
     ·cases ha
    ·cases ha
  ·cases ha
  ·exact hflat ha
  ·exact hflat ha
  ·exact hflat ha
  ·exact hflat ha
  ·exact hflat ha
  ·cases ha
theorem cop_val (h:R P ρ σ w) {ev ev':Operand→Value} {o:Oper} (he:∀x∈o.op.operands,VR ρ (ev x) (ev' x)) {v:Value} {σ':CSt}
  (ha:cop P σ ev o= .val v σ'):qe7 P ρ σ w ((execOp ev' o).run P w) v σ':=by
 have hflat:(∀cs b,o.op≠ .select cs b)→∀{v σ'},qbc P σ ev o= .val v σ'→qe7 P ρ σ w ((execOp ev' o).run P w) v σ':=λhs _ _ hf=>qk5 h hs he hf
 unfold cop at ha;split at ha
 all_goals try (rename_i hop;rw [hop] at he)
 ·cases ha;refine .same h ?_ (he _ (by simp [Op.operands]))
  simp only [execOp,hop];rfl
 ·cases ha;refine .same h ?_ (he _ (by simp [Op.operands]))
  simp only [execOp,hop];rfl
 ·rename_i c a b;split at ha
  ·rename_i t ht;cases ha;have hc:=he c (by simp [Op.operands])
   rw [ht] at hc;refine .same h (v':=if t then ev' a else ev' b) ?_ ?_
   ·simp only [execOp,hop,hc.bool,asBool];rfl
   ·cases t
    ·exact he _ (by simp [Op.operands])
    ·exact he _ (by simp [Op.operands])
  ·cases ha
 ·simp only [execOp,hop];exact qe7.of_v (qoh h (qhm ha))
 ·rename_i e x;split at ha
  ·rename_i hc;cases ha;simp only [execOp,hop];exact qe7.of_v (zbq h e (he _ (by simp [Op.operands])) hc)
  ·cases ha
 ·rename_i t parts;obtain⟨ha2,rfl⟩:=qdu ha;simp only [execOp,hop];exact qe7.of_r h (qol (PsR.of_map parts λp hp=>he p.2 (by simp [Op.operands];exact⟨p.1,hp⟩)) ha2 w)
 ·rename_i t len parts;simp only [execOp,hop];exact qe7.of_v (qie h (PsR.of_map parts λp hp=>he p.2 (by simp [Op.operands];exact⟨p.1,hp⟩)) (qhm ha))
 ·rename_i t a;obtain⟨ha2,rfl⟩:=qdu ha;simp only [execOp,hop];exact qe7.of_r h (qmx h (he _ (by simp [Op.operands])) ha2)
 ·rename_i t a x;obtain⟨ha2,rfl⟩:=qno ha;simp only [execOp,hop];exact qe7.of_u (qu6 h (he _ (by simp [Op.operands])) (he _ (by simp [Op.operands])) ha2)
 ·rename_i x;have hx:=he x (by simp [Op.operands])
  split at ha
  ·rename_i a hxa;cases ha;rw [hxa] at hx;obtain⟨a',ha'⟩:=hx.ptrS;refine .same h (v':=ev' x) ?_ hx;simp only [execOp,hop,ha'];rfl
  ·rename_i f fs cs hxa;cases ha;rw [hxa] at hx;obtain⟨bs,ds,hx',_⟩:=hx.funcF;refine .same h (v':=ev' x) ?_ hx;simp only [execOp,hop,hx'];rfl
  ·rename_i f fs cs hxa;cases ha;rw [hxa] at hx;obtain⟨p,bs,ds,_,hx',_⟩:=hx.funcY;refine .same h (v':=ev' x) ?_ hx;simp only [execOp,hop,hx'];rfl
  ·rename_i t u hxa;cases ha;rw [hxa] at hx;obtain⟨u',hx',_⟩:=hx.ifaceS;refine .same h (v':=ev' x) ?_ hx;simp only [execOp,hop,hx'];rfl
  ·cases ha
 ·rename_i op t x y u;split at ha
  ·rename_i v0 hn;cases ha;obtain⟨h1,h2⟩:=qmp (ox:=x) (oy:=y) (he x (by simp [Op.operands])) (he y (by simp [Op.operands])) hn w
   simp only [execOp,hop];exact qe7.of_r h ⟨_,h1,h2⟩
  ·exact hflat (by rw [hop];simp) ha
 ·exact hflat (by rw [hop];simp) ha
 ·rename_i src dst x;rcases que ha with ha|⟨_,ha⟩
  ·simp only [execOp,hop];exact qe7.of_v (qm2 h (he _ (by simp [Op.operands])) ha)
  ·exact hflat (by rw [hop];simp) ha
 ·rename_i t x;have hx:=he x (by simp [Op.operands])
  split at ha
  ·cases ha
  ·cases ha
  ·rename_i d hni hd;cases ha;simp only [execOp,hop];refine qe7.of_r h ⟨.iface t (ev' x), ?_, .iface _ _ _ hx⟩;cases d<;>first|exact absurd rfl (hni _)|simp [Instr.makeInterface,run_underlying hd]
 ·rename_i fn first captured
  split at ha
  ·cases ha
  ·rename_i hy;cases ha;simp only [execOp,hop];have h1:=AsR.of_map first λx hx=>he x (by simp [Op.operands,hx])
   have h2:=AsR.of_map captured λx hx=>he x (by simp [Op.operands,hx])
   refine qe7.of_r h ⟨.func fn (first.map ev') (captured.map ev'),rfl, .func _ _ _ _ _ _ (.same _ λl e=> ?_) h1.1 h1.2 h2.1 h2.2⟩
   subst e;exact hy l rfl
 ·rename_i t;split at ha
  ·rename_i kt et hu;cases ha;simp only [execOp,hop];obtain⟨r1,r2⟩:=h.newObj (o:= .map #[] 0) (o':= .map #[] 0) (fun ρ' _ w' hw=>⟨#[],hw,rfl,λi u=>by simp at u⟩)
   exact qe7.of_v ⟨_,_,_,by simp [Instr.makeMap],r1, .map σ.n ⟨w.heap.size,0,0,0⟩ (Rho.set_self ..),r2⟩
  ·cases ha
 ·rename_i t r;split at ha
  ·rename_i kt et k n hu hr;cases ha;have hx:=he r (by simp [Op.operands])
   rw [hr] at hx;simp only [execOp,hop,Option.map_some,hx.int];obtain⟨r1,r2⟩:=h.newObj (o:= .map #[] 0) (o':= .map #[] 0) (fun ρ' _ w' hw=>⟨#[],hw,rfl,λi u=>by simp at u⟩)
   exact qe7.of_v ⟨_,_,_,by simp [Instr.makeMap,run_underlying hu,asInt,asIntOf],r1, .map σ.n ⟨w.heap.size,0,0,0⟩ (Rho.set_self ..),r2⟩
  ·cases ha
 ·rename_i t l c;simp only [execOp,hop];exact qe7.of_v (qji h (he _ (by simp [Op.operands])) (he _ (by simp [Op.operands])) (qhm ha))
 ·rename_i t x lo hi mx;rcases que ha with ha|⟨_,ha⟩
  ·obtain⟨ha2,rfl⟩:=qdu ha;simp only [execOp,hop];refine qe7.of_r h (qo9 h (he _ (by simp [Op.operands])) (qr3.of_map lo λy hy=>he y (by simp [Op.operands,hy])) (qr3.of_map hi λy hy=>he y (by simp [Op.operands,hy])) (qr3.of_map mx λy hy=>he y (by simp [Op.operands,hy])) ha2)
  ·exact hflat (by rw [hop];simp) ha
 ·obtain⟨ha2,rfl⟩:=qdu ha;simp only [execOp,hop];exact qe7.of_r h (qov (he _ (by simp [Op.operands])) ha2)
 ·obtain⟨ha2,rfl⟩:=qdu ha;simp only [execOp,hop];exact qe7.of_r h (qnp (he _ (by simp [Op.operands])) ha2)
 ·obtain⟨ha2,rfl⟩:=qdu ha;simp only [execOp,hop];exact qe7.of_r h (qoo (he _ (by simp [Op.operands])) (he _ (by simp [Op.operands])) ha2)
 ·exact hflat (by rw [hop];simp) ha
 ·obtain⟨ha2,rfl⟩:=qdu ha;simp only [execOp,hop];exact qe7.of_r h (qma h (he _ (by simp [Op.operands])) (he _ (by simp [Op.operands])) ha2)
 ·obtain⟨ha2,rfl⟩:=qno ha;simp only [execOp,hop];exact qe7.of_u (qhg h (he _ (by simp [Op.operands])) (he _ (by simp [Op.operands])) (he _ (by simp [Op.operands])) ha2)
 ·obtain⟨ha2,rfl⟩:=qno ha;simp only [execOp,hop];exact qe7.of_u (qhg h (he _ (by simp [Op.operands])) (he _ (by simp [Op.operands])) (he _ (by simp [Op.operands])) ha2)
 ·simp only [execOp,hop];exact qe7.of_v (qoe h (he _ (by simp [Op.operands])) (qhm ha))
 ·simp only [execOp,hop];exact qe7.of_v (qxr h (he _ (by simp [Op.operands])) ha)
 ·obtain⟨ha2,rfl⟩:=qdu ha;simp only [execOp,hop];exact qe7.of_r h (qos h (he _ (by simp [Op.operands])) ha2)
 ·obtain⟨ha2,rfl⟩:=qdu ha;simp only [execOp,hop];exact qe7.of_r h (qme (he _ (by simp [Op.operands])) ha2 w)
 ·rename_i t i;split at ha
  ·rename_i vs hvs;obtain⟨ha2,rfl⟩:=qdu ha;have hx:=he t (by simp [Op.operands])
   rw [hvs] at hx;simp only [execOp,hop];rcases hx.tupleS with rfl|⟨ws,hw,hr⟩
   ·simp at ha2
   ·obtain⟨v',e1,e2⟩:=hr.getElem? ha2;refine qe7.of_r h ⟨v', ?_,e2⟩;rw [hw];simp [Instr.extract,e1]
  ·cases ha
 ·exact qxb h hop (by rw [hop];exact he) ha
 ·split at ha
  ·split at ha<;>cases ha
  ·cases ha
 ·split at ha<;>cases ha
 ·cases ha
end
def OpR.vf:OpR→Prop
 | .val _ _| .fail=>True
 |_=>False
theorem qv6 {σ:CSt} {x:Option Value}:(OpR.ofV σ x).vf:=by cases x<;>trivial
theorem vf_ofP {x:Option (Value×CSt)}:(OpR.ofP x).vf:=by cases x<;>trivial
theorem vf_ofS {x:Option CSt}:(OpR.ofS x).vf:=by cases x<;>trivial
theorem qm1 {P:Program} {σ:CSt} {ev:Operand→Value} {o:Oper}:(qbc P σ ev o).vf:=by
 unfold qbc;split
 ·split
  ·split<;>trivial
  ·trivial
 ·trivial
theorem vf_or {a b:OpR} (h:a.vf) (k:b.vf):(a.or b).vf:=by cases a<;>simp_all [OpR.or,OpR.vf]
theorem qx4 {P:Program} {σ:CSt} {s d:TypeId} {x:Value}:(qd9 P σ s d x).vf:=by
 unfold qd9
 repeat' split
 all_goals trivial
def OpR.inv (P:Program) (σ:CSt) (ev:Operand→Value) (o:Oper):OpR→Prop
 | .val _ _| .fail=>True
 | .pick n k=>∃it s,o.op= .next it s∧qej σ (ev it) s= .pick n k
 | .every p k=>∃c i off n,o.op= .call c∧c.callee= .builtin .cap∧(c.args.map ev).toList= [.slice (some ⟨i,off,none⟩) n qa1]∧qpc P σ c.argTypes i off n= .every p k
 | .call fv args=>∃c f,o.op= .call c∧c.callee= .value f∧fv=ev f∧args=c.args.map ev
 | .panic v=>∃x t u,o.op= .panic x∧ev x= .iface t u∧v= .iface t u
 | .defer d=>∃c f g fs cs,o.op= .defer c∧c.callee= .value f∧ev f= .func (.func g) fs cs∧d=⟨.func (.func g) fs cs,c.args.map ev⟩
 | .recover=>∃c,o.op= .call c∧c.callee= .builtin .recover∧c.args= #[]
theorem qc2 {P:Program} {σ:CSt} {ev:Operand→Value} {o:Oper} {r:OpR} (h:r.vf):r.inv P σ ev o:=by cases r<;>simp_all [OpR.vf,OpR.inv]
theorem qy1 {P:Program} {σ:CSt} {ev:Operand→Value} {o:Oper} {c:Call} (hop:o.op= .call c):(qbs P σ ev o c).inv P σ ev o:=by
 unfold qbs;split
 ·rename_i f hf;exact⟨c,f,hop,hf,rfl,rfl⟩
 ·trivial
 ·rename_i b hb;split
  all_goals first|exact qc2 qv6|exact qc2 vf_ofP|exact qc2 vf_ofS|exact qc2 qm1|trivial|skip
  ·rename_i i off n k hx;split
   ·rename_i hk;rcases qhn (P:=P) (σ:=σ) (ts:=c.argTypes) (i:=i) (off:=off) (n:=n) with h|⟨p,kk,h⟩
    ·rw [h];trivial
    ·rw [h];exact⟨c,i,off,n,hop,hb,by rw [hx,hk],h⟩
   ·split
    ·split<;>trivial
    ·trivial
  ·rename_i hx;refine⟨c,hop,hb, ?_⟩;have:(c.args.map ev).size=0:=by rw [←Array.length_toList,hx];rfl
   apply Array.eq_empty_of_size_eq_zero;simpa using this
theorem qhy (P:Program) (σ:CSt) (ev:Operand→Value) (o:Oper):(cop P σ ev o).inv P σ ev o:=by
 unfold cop;split
 all_goals first|exact qc2 qv6|exact qc2 vf_ofP|exact qc2 vf_ofS|exact qc2 qm1|exact qc2 (vf_or qx4 qm1)|exact qc2 (vf_or qv6 qm1)|trivial|skip
 all_goals try (split<;>first|exact qc2 qv6|exact qc2 qm1|trivial)
 ·rename_i it s hop;generalize hn:qej σ (ev it) s=r;cases r with
  |pick n k=>exact⟨it,s,hop,hn⟩
  |val v σ'=>trivial
  |fail=>trivial
  |_=>
   exfalso;unfold qej at hn;split at hn
   ·split at hn
    ·split at hn<;>cases hn
    ·cases hn
    ·split at hn
     ·split at hn<;>cases hn
     ·cases hn
    ·cases hn
   ·cases hn
 ·rename_i c hop;exact qy1 hop
 ·rename_i c hop;split
  ·rename_i f hf;split
   ·rename_i g fs cs hg;exact⟨c,f,g,fs,cs,hop,hf,hg,rfl⟩
   ·trivial
  ·trivial
 ·rename_i x hop;split
  ·rename_i t u hx;exact⟨x,t,u,hop,hx,rfl⟩
  ·trivial
section
variable {P:Program} {ρ:Rho} {σ:CSt} {w:World}
theorem cop_pick (h:R P ρ σ w) {ev ev':Operand→Value} {o:Oper} (he:∀x∈o.op.operands,VR ρ (ev x) (ev' x)) {n:Nat} {k:Nat→Value×CSt}
  (ha:cop P σ ev o= .pick n k):∃j,(n≤1→j=0)∧(1<n→j<n)∧qe7 P ρ σ w ((execOp ev' o).run P w) (k j).1 (k j).2:=by
 have:=qhy P σ ev o;rw [ha] at this;obtain⟨it,s,hop,hn⟩:=this;obtain⟨j,h1,h2,h3⟩:=qtc h (ty:=o.type) (he it (by rw [hop];simp [Op.operands])) hn
 refine⟨j,h1,h2, ?_⟩;simp only [execOp,hop];exact qe7.of_v h3
theorem R.bare (h:R P ρ σ w) {i off cc:Nat} {c0:List Value} {e:TypeId} (hg:σ.get i=some (.cells c0 e false)) {pl:Place} (hp:ρ i=some pl) (hcc:cc=0∨off+cc*pl.z=pl.e):
  R P ρ (σ.put i (.cells (qbg c0 off (P.cellsOf e) cc) e false)) w∧Frm ρ σ w ρ (σ.put i (.cells (qbg c0 off (P.cellsOf e) cc) e false)) w:=by
 have hrw:rw_ σ i:=⟨_,hg,rfl,by simp⟩
 obtain⟨hz',ca,fz,h1,h2,h3,h4,h5⟩:=h.obj i _ pl hg hp;have hlen:(qbg c0 off (P.cellsOf e) cc).length≤pl.e:=by
  unfold qbg;by_cases h0:cc=0
  ·rw [if_pos h0];exact h3
  ·rw [if_neg h0];have:=hcc.resolve_left h0;rw [hz'] at this;simp only [List.length_append,List.length_replicate];omega
 refine h.write hp hrw (Wr.id h1) rfl (by simp) ⟨hz',ca,fz,h1,h2,hlen,λj u=> ?_,h5⟩
 by_cases hj:j<c0.length
 ·obtain⟨v',g1,g2⟩:=h4 j hj;refine⟨v',g1, ?_⟩;have:(qbg c0 off (P.cellsOf e) cc)[j]=c0[j]:=by
   simp only [qbg];split
   ·rfl
   ·rw [List.getElem_append_left hj]
  rw [this];exact g2
 ·have hjs:pl.o+j<ca.size:=by omega
  refine⟨ca[pl.o+j],Array.getElem?_eq_getElem hjs, ?_⟩;have:(qbg c0 off (P.cellsOf e) cc)[j]=undef:=by
   simp only [qbg] at u⊢;split
   ·rename_i h0;rw [if_pos h0] at u;exact absurd u hj
   ·rw [List.getElem_append_right (by omega),List.getElem_replicate]
  rw [this];exact .junk _
theorem zbp (h:R P ρ σ w) {ev ev':Operand→Value} {o:Oper} (he:∀x∈o.op.operands,VR ρ (ev x) (ev' x)) {p:Nat→Bool} {k:Nat→Value×CSt}
  (ha:cop P σ ev o= .every p k):∃j,p j=true∧qe7 P ρ σ w ((execOp ev' o).run P w) (k j).1 (k j).2:=by
 have:=qhy P σ ev o;rw [ha] at this;obtain⟨c,i,off,n,hop,hb,hx,hcap⟩:=this;have hrel:=(AsR.of_map (ev:=ev) (ev':=ev') c.args λx hx=>he x (by rw [hop];simp [Op.operands,Call.operands,hb,hx])).toList
 obtain⟨x',hx',hxr⟩:∃x',(c.args.map ev')= #[x']∧VR ρ (.slice (some ⟨i,off,none⟩) n qa1) x':=by
  rw [hx] at hrel;have hl:=hrel.1
  match hy:(c.args.map ev').toList,hl with
  | [x'],_=>
   rw [hy] at hrel;exact⟨x',by rw [←Array.toArray_toList (xs:=c.args.map ev'),hy],hrel.head⟩
 have hex:execOp ev' o=Go.builtin .cap c.argTypes o.type (c.args.map fun| .const _=>true|_=>false) (c.args.map ev'):=by
  simp only [execOp,hop,resolve,hb]
  rfl
 rw [hex,hx'];unfold qpc at hcap;split at hcap
 ·rename_i t h0;split at hcap
  ·rename_i e inf c0 e' hel hg;split at hcap
   ·rename_i hc;obtain⟨rfl,hz⟩:=hc;injection hcap with hp1 hk1
    subst hp1;subst hk1;obtain⟨e1,hu⟩:∃e1,P.underlying t=some (.slice e1):=by
     unfold qdv at hel;split at hel
     ·rename_i e1 hu;exact⟨e1,hu⟩
     ·cases hel
    obtain⟨pl,hp,hor⟩:=h.live_of_get hg (by simp)
    have key:∀cc,(cc=0∨off+cc*pl.z=pl.e)→∀b,qe7 P ρ σ w ((Go.builtin .cap c.argTypes o.type (c.args.map fun| .const _=>true|_=>false) #[.slice b n cc]).run P w) (.int .i64 cc) (σ.put i (.cells (qbg c0 off inf.size cc) e' false)):=by
     intro cc hcc b;obtain⟨r1,r2⟩:=h.bare hg hp hcc;rw [hz] at r1 r2;exact qe7.of_v ⟨.int .i64 cc,ρ,w,by simp [Builtin.cap_,h0,run_underlying hu,goInt],r1, .plain _ rfl,r2⟩
    cases hxr with
    |plain v hf=>simp [qae] at hf
    |slc _ _ _ _ q hq hcc=>exact absurd rfl hcc
    |slo _ _ _ cc q hq hn hcc hbb=>
     rw [hp] at hq;cases hq;exact⟨cc,by simp [hn,hbb],key cc (.inr hcc) _⟩
    |sle _ _ a q hq hee=>exact⟨0,by simp [qa1],key 0 (.inl rfl) _⟩
   ·cases hcap
  ·cases hcap
 ·cases hcap
theorem cop_call {ev ev':Operand→Value} {o:Oper} (he:∀x∈o.op.operands,VR ρ (ev x) (ev' x)) {fv:Value} {args:Array Value}
  (ha:cop P σ ev o= .call fv args):∃fv' args',VR ρ fv fv'∧AsR ρ args args'∧execOp ev' o=(do let d ←Deferred.ofValue fv' args';invoke d.target d.args):=by
 have:=qhy P σ ev o;rw [ha] at this;obtain⟨c,f,hop,hf,rfl,rfl⟩:=this;refine⟨ev' f,c.args.map ev',he f (by rw [hop];simp [Op.operands,Call.operands,hf]),AsR.of_map _ λx hx=>he x (by rw [hop];simp [Op.operands,Call.operands,hx]), ?_⟩
 simp only [execOp,hop,resolve,hf]
theorem zas {ev ev':Operand→Value} {o:Oper} (he:∀x∈o.op.operands,VR ρ (ev x) (ev' x)) {v:Value}
  (ha:cop P σ ev o= .panic v) (w:World):∃v',VR ρ v v'∧(execOp ev' o).run P w= .halt (.panic v') w:=by
 have:=qhy P σ ev o;rw [ha] at this;obtain⟨x,t,u,hop,hx,rfl⟩:=this;have hr:=he x (by rw [hop];simp [Op.operands])
 rw [hx] at hr;obtain⟨u',hx',_⟩:=hr.ifaceS;refine⟨ev' x,hr, ?_⟩;simp only [execOp,hop];rw [hx'];simp [Instr.panic]
theorem zb9 {ev ev':Operand→Value} {o:Oper} (he:∀x∈o.op.operands,VR ρ (ev x) (ev' x)) {d:CDef}
  (ha:cop P σ ev o= .defer d) (w:World):∃g fs cs bs ds args',d.f= .func (.func g) fs cs∧AsR ρ fs bs∧AsR ρ cs ds∧AsR ρ d.args args'∧
   (execOp ev' o).run P w= .ok (.defer {target:= .fn (.func g) ds,args:=bs++args'}) w:=by
 have:=qhy P σ ev o;rw [ha] at this;obtain⟨c,f,g,fs,cs,hop,hf,hx,rfl⟩:=this;have hr:=he f (by rw [hop];simp [Op.operands,Call.operands,hf])
 rw [hx] at hr;obtain⟨bs,ds,hx',h1,h2⟩:=hr.funcF;refine⟨g,fs,cs,bs,ds,c.args.map ev',rfl,h1,h2,AsR.of_map _ λx hx=>he x (by rw [hop];simp [Op.operands,Call.operands,hx]), ?_⟩
 simp only [execOp,hop,resolve,hf,hx',Deferred.ofValue,Sem.run_bind,Sem.run_pure,Result.andThen_ok]
theorem qs0 {ev ev':Operand→Value} {o:Oper} (ha:cop P σ ev o= .recover) (w:World):(execOp ev' o).run P w= .ok .recover w:=by
 have:=qhy P σ ev o;rw [ha] at this;obtain⟨c,hop,hc,h0⟩:=this;simp only [execOp,hop,resolve,hc,h0,Sem.run_bind,Sem.run_pure,Result.andThen_ok]
 rfl
end
def atR (b:Frame) (a:Act) (todo:List Item):Frame:={b with tmps:=a.tmps,todo:=todo,defers:=a.defers,mode:= .run}
theorem qvj (b:Frame) (a:Act) (todo:List Item):(atR b a todo).eval=a.eval:=by funext x;cases x<;>rfl
section moves
variable {P:Program} {b:Frame} {a:Act} {k:List Item} {cs:List Frame} {w:World}
theorem st_skip:step P (lone (atR b a (.code .skip::k)) cs w)= .next (lone (atR b a k) cs w):=step_lone_go (by simp [stepG,stepG.exec,atR])
theorem st_label {l:Nat}:step P (lone (atR b a (.code (.label l)::k)) cs w)= .next (lone (atR b a k) cs w):=step_lone_go (by simp [stepG,stepG.exec,atR])
theorem qx2 {id:Nat}:step P (lone (atR b a (.inBlock id::k)) cs w)= .next (lone (atR b a k) cs w):=step_lone_go (by simp [stepG,stepG.exec,atR])
theorem qy2 {c:Code}:step P (lone (atR b a (.inScope c::k)) cs w)= .next (lone (atR b a k) cs w):=step_lone_go (by simp [stepG,stepG.exec,atR])
theorem st_seq {x y:Code}:step P (lone (atR b a (.code (.seq x y)::k)) cs w)= .next (lone (atR b a (.code x:: .code y::k)) cs w):=step_lone_go (by simp [stepG,stepG.exec,atR])
theorem st_cond {c:Operand} {x y:Code} {t:Bool} (h:a.eval c= .bool t):step P (lone (atR b a (.code (.cond c x y)::k)) cs w)= .next (lone (atR b a (.code (if t then x else y)::k)) cs w):=
 step_lone_go (by
  have:=congrFun (qvj b a (.code (.cond c x y)::k)) c;simp only [atR] at this
  simp [stepG,stepG.exec,atR,this,h])
theorem st_block {id:Nat} {c:Code}:step P (lone (atR b a (.code (.block id c)::k)) cs w)= .next (lone (atR b a (.code c:: .inBlock id::k)) cs w):=step_lone_go (by simp [stepG,stepG.exec,atR])
theorem qzu {c:Code}:step P (lone (atR b a (.code (.loop c)::k)) cs w)= .next (lone (atR b a (.code c:: .inLoop c::k)) cs w):=step_lone_go (by simp [stepG,stepG.exec,atR])
theorem qyn {c:Code}:step P (lone (atR b a (.inLoop c::k)) cs w)= .next (lone (atR b a (.code c:: .inLoop c::k)) cs w):=step_lone_go (by simp [stepG,stepG.exec,atR])
theorem st_scope {c:Code}:step P (lone (atR b a (.code (.scope c)::k)) cs w)= .next (lone (atR b a (.code c:: .inScope c::k)) cs w):=step_lone_go (by simp [stepG,stepG.exec,atR])
theorem st_exit {id:Nat} {k':List Item} (h:exitTo id k=some k'):step P (lone (atR b a (.code (.exit id)::k)) cs w)= .next (lone (atR b a k') cs w):=step_lone_go (by simp [stepG,stepG.exec,atR,h])
theorem st_goto {l:Nat} {k':List Item} (h:gotoIn l k=some k'):step P (lone (atR b a (.code (.goto l)::k)) cs w)= .next (lone (atR b a k') cs w):=step_lone_go (by simp [stepG,stepG.exec,atR,h])
theorem zan {ops:Array Oper} {id:Nat}:step P (lone (atR b a (.code (.region id ops false)::k)) cs w)= .next (lone (atR b a (.inRegion ops (List.range ops.size)::k)) cs w):=step_lone_go (by simp [stepG,stepG.exec,atR])
theorem qmg {ops:Array Oper} {id:Nat}:step P (lone (atR b a (.code (.region id ops true)::k)) cs w)=
  .next (lone (atR b a (.inRegion ops (Region.schedule (P.follows .mixedOrders) ops (w.tape w.drawn (.order b.fn id)))::k)) cs {w with drawn:=w.drawn+1}):=
 step_lone_go (by simp [stepG,stepG.exec,atR,choose,Sem.run,Question.forced,Question.cut])
theorem qi6 {ops:Array Oper}:step P (lone (atR b a (.inRegion ops []::k)) cs w)= .next (lone (atR b a k) cs w):=step_lone_go (by simp [stepG,stepG.exec,atR])
theorem qfi (b:Frame) (a:Act) (ops:Array Oper) (i:Nat) (rest:List Nat) (k:List Item) (v:Value):
  (atR b a (.inRegion ops (i::rest)::k)).finish v=atR b (a.put ((ops[i]?).bind (·.dst)) v) (.inRegion ops rest::k):=by
 cases h:(ops[i]?).bind (·.dst)<;>simp [Frame.finish,atR,Act.put,h]
theorem qmq {ops:Array Oper} {i:Nat} {rest:List Nat} (h:((ops[i]?).map (Region.wanted · (yielded ops a.tmps))).getD false=false):
  step P (lone (atR b a (.inRegion ops (i::rest)::k)) cs w)= .next (lone (atR b (a.put ((ops[i]?).bind (·.dst)) undef) (.inRegion ops rest::k)) cs w):=by
 rw [←qfi]
 exact step_lone_go (by
  have h':=h;simp only [atR] at*
  simp [stepG,stepG.exec,h'])
theorem qzj {fr:Frame} {ops:Array Oper} {i:Nat} {rest:List Nat} {o:Oper} (hm:fr.mode= .run) (ht:fr.todo= .inRegion ops (i::rest)::k) (ho:ops[i]? =some o) (hw:Region.wanted o (yielded ops fr.tmps)=true)
  (hd:fr.roundOf=none∨∀c,o.op≠ .defer c):
  stepG P true {frame:=fr,callers:=cs,status:= .running,dying:=none} w=stepG.apply P true fr cs none (execOp fr.eval o) w:=by
 obtain⟨fn,tmps,todo,defers,mode,kind,rnd⟩:=fr;simp only at hm ht hw hd;subst hm ht;cases rnd with
 |none=>simp [stepG,stepG.exec,stepG.oper,Frame.oper?,ho,hw]
 |some l=>
  have hd':∀c,o.op≠ .defer c:=by
   rcases hd with hd|hd
   ·cases hd
   ·exact hd
  simp only [stepG,stepG.exec,ho,Option.map_some,hw,Option.getD_some,if_true,stepG.oper,Frame.oper?];split
  ·rename_i h1;exact absurd h1 (hd' _)
  ·rfl
theorem qff {ops:Array Oper} {i:Nat} {rest:List Nat} {o:Oper} (ho:ops[i]? =some o) (hw:Region.wanted o (yielded ops a.tmps)=true) (hd:b.roundOf=none∨∀c,o.op≠ .defer c):
  stepG P true {frame:=atR b a (.inRegion ops (i::rest)::k),callers:=cs,status:= .running,dying:=none} w=
   stepG.apply P true (atR b a (.inRegion ops (i::rest)::k)) cs none (execOp a.eval o) w:=by
 rw [qzj (fr:=atR b a (.inRegion ops (i::rest)::k)) rfl rfl ho hw hd,qvj]
variable {ops:Array Oper} {i:Nat} {rest:List Nat} {o:Oper}
theorem qst (ho:ops[i]? =some o) (hw:Region.wanted o (yielded ops a.tmps)=true) (hd:b.roundOf=none∨∀c,o.op≠ .defer c) {n:Next} {v:Value} {w':World}
  (hr:(execOp a.eval o).run P w= .ok n w') (hn:n= .value v∨(n= .skip∧v=undef)):
  step P (lone (atR b a (.inRegion ops (i::rest)::k)) cs w)= .next (lone (atR b (a.put o.dst v) (.inRegion ops rest::k)) cs w'):=by
 have hf:=qfi b a ops i rest k v;rw [ho] at hf;refine step_lone_go ?_;rw [qff ho hw hd]
 change (atR b a (.inRegion ops (i::rest)::k)).finish v=atR b (a.put o.dst v) (.inRegion ops rest::k) at hf
 rcases hn with rfl|⟨rfl,rfl⟩
 ·simp [stepG.apply,hr,hf]
 ·simp [stepG.apply,hr,hf]
theorem qtj (ho:ops[i]? =some o) (hw:Region.wanted o (yielded ops a.tmps)=true) (hd:b.roundOf=none∨∀c,o.op≠ .defer c) {f:FuncId} {args:Array Value} {w':World}
  (hr:(execOp a.eval o).run P w= .ok (.enter f args) w'):
  step P (lone (atR b a (.inRegion ops (i::rest)::k)) cs w)= .next (lone (Frame.enter P f args .normal) (atR b a (.inRegion ops (i::rest)::k)::cs) w'):=by
 refine step_lone_go ?_;rw [qff ho hw hd];simp [stepG.apply,hr,atR]
theorem qso (ho:ops[i]? =some o) (hw:Region.wanted o (yielded ops a.tmps)=true) (hd:b.roundOf=none∨∀c,o.op≠ .defer c) {l:Nat} {f:FuncId} {tmps:Array Value} {asg body:Code} {w':World}
  (hr:(execOp a.eval o).run P w= .ok (.round l f tmps asg body) w'):
  step P (lone (atR b a (.inRegion ops (i::rest)::k)) cs w)= .next (lone (Frame.round l f tmps asg body .normal) (atR b a (.inRegion ops (i::rest)::k)::cs) w'):=by
 refine step_lone_go ?_;rw [qff ho hw hd];simp [stepG.apply,hr,atR]
theorem qrw (ho:ops[i]? =some o) (hw:Region.wanted o (yielded ops a.tmps)=true) (hd:b.roundOf=none∨∀c,o.op≠ .defer c) {v:Value} {w':World}
  (hr:(execOp a.eval o).run P w= .halt (.panic v) w'):
  step P (lone (atR b a (.inRegion ops (i::rest)::k)) cs w)= .next (lone {atR b a (.inRegion ops (i::rest)::k) with mode:= .panicking [{v,recovered:=false}]} cs w'):=by
 refine step_lone_go ?_;rw [qff ho hw hd];simp [stepG.apply,hr,atR,Frame.raise]
theorem qse (ho:ops[i]? =some o) (hw:Region.wanted o (yielded ops a.tmps)=true) (hd:b.roundOf=none) {d:Deferred} {w':World}
  (hr:(execOp a.eval o).run P w= .ok (.defer d) w'):
  step P (lone (atR b a (.inRegion ops (i::rest)::k)) cs w)= .next (lone (atR b ({a with defers:=d::a.defers}.put o.dst undef) (.inRegion ops rest::k)) cs w'):=by
 have hf:=qfi b {a with defers:=d::a.defers} ops i rest k undef
 rw [ho] at hf
 change (atR b {a with defers:=d::a.defers} (.inRegion ops (i::rest)::k)).finish undef=atR b ({a with defers:=d::a.defers}.put o.dst undef) (.inRegion ops rest::k) at hf
 refine step_lone_go ?_;rw [qff ho hw (.inl hd),←hf];simp [stepG.apply,hr,atR]
theorem qia (ho:ops[i]? =some o) (hw:Region.wanted o (yielded ops a.tmps)=true) (hd:b.roundOf=none) {w':World} (hr:(execOp a.eval o).run P w= .ok .recover w') {v:Value} {cs':List Frame}
  (ht:(b.kind= .normal∧v= .nilIface∧cs'=cs)∨(b.kind= .deferred∧∃c r,cs=c::r∧
   ((v= .nilIface∧cs'=cs∧(c.mode= .returning∨∃u l,c.mode= .panicking ({v:=u,recovered:=true}::l)))∨(∃l,c.mode= .panicking ({v:=v,recovered:=false}::l)∧cs'={c with mode:= .panicking ({v:=v,recovered:=true}::l)}::r)))):
  step P (lone (atR b a (.inRegion ops (i::rest)::k)) cs w)= .next (lone (atR b (a.put o.dst v) (.inRegion ops rest::k)) cs' w'):=by
 have hf:=qfi b a ops i rest k v;rw [ho] at hf
 change (atR b a (.inRegion ops (i::rest)::k)).finish v=atR b (a.put o.dst v) (.inRegion ops rest::k) at hf
 refine step_lone_go ?_;rw [qff ho hw (.inl hd),←hf];have hro:(atR b a (.inRegion ops (i::rest)::k)).roundOf=none:=hd;have hk:(atR b a (.inRegion ops (i::rest)::k)).kind=b.kind:=rfl;rcases ht with⟨h1,rfl,rfl⟩|⟨h1,c,r,rfl,⟨rfl,rfl,h2⟩|⟨l,h2,rfl⟩⟩
 ·have:tryRecover (atR b a (.inRegion ops (i::rest)::k)) cs'=none:=by unfold tryRecover;rw [hk,h1]
  simp [stepG.apply,hr,hro,this]
 ·have:tryRecover (atR b a (.inRegion ops (i::rest)::k)) (c::r)=none:=by
   unfold tryRecover;rw [hk,h1];rcases h2 with h2|⟨u,l,h2⟩<;>simp [h2]
  simp [stepG.apply,hr,hro,this]
 ·have:tryRecover (atR b a (.inRegion ops (i::rest)::k)) (c::r)=some (v,{c with mode:= .panicking ({v:=v,recovered:=true}::l)}::r):=by
   unfold tryRecover;rw [hk,h1];simp [h2]
  simp [stepG.apply,hr,hro,this]
end moves
def CdR (ρ:Rho) (d:CDef) (d':Deferred):Prop:=∃g fs cs bs ds args',d.f= .func (.func g) fs cs∧AsR ρ fs bs∧AsR ρ cs ds∧AsR ρ d.args args'∧d'={target:= .fn (.func g) ds,args:=bs++args'}
theorem CdR.mono {ρ ρ':Rho} (hr:ρ.le ρ') {d:CDef} {d':Deferred} (h:CdR ρ d d'):CdR ρ' d d':=by
 obtain⟨g,fs,cs,bs,ds,as0,h1,h2,h3,h4,h5⟩:=h;exact⟨g,fs,cs,bs,ds,as0,h1,h2.mono hr,h3.mono hr,h4.mono hr,h5⟩
def qv2 (B:Nat) (ρ:Rho) (σ:CSt) (w:World) (r:Nat):Prop:=w.heap[r]? =some (.deferred (some []))∧B≤r∧∀i p,ρ i=some p→rw_ σ i→p.b≠r
theorem qv2.frm {B:Nat} {ρ ρ':Rho} {σ σ':CSt} {w w':World} {r:Nat} (h:qv2 B ρ σ w r) (f:Frm ρ σ w ρ' σ' w'):qv2 B ρ' σ' w' r:=by
 have hlt:=(Array.getElem?_eq_some_iff.1 h.1).1;refine⟨by rw [f.keep r hlt h.2.2];exact h.1,h.2.1,λi p hp hr=> ?_⟩
 rcases f.fresh i p hp hr with h1|⟨j,q,h1,h2,h3⟩
 ·omega
 ·rw [←h3];exact h.2.2 j q h1 h2
inductive DfR (B:Nat) (ρ:Rho) (σ:CSt) (w:World):List CDef→List Deferred→Prop
 |nil:DfR B ρ σ w [] []
 |cons (d:CDef) (d':Deferred) (l:List CDef) (l':List Deferred) (h:CdR ρ d d') (t:DfR B ρ σ w l l'):DfR B ρ σ w (d::l) (d'::l')
 |mark (r:Nat) (l:List CDef) (l':List Deferred) (h:qv2 B ρ σ w r) (hn:∀d∈l',∀q,d.target= .collected q→q≠r) (t:DfR B ρ σ w l l'):DfR B ρ σ w l ({target:= .collected r,args:= #[]}::l')
theorem DfR.frm {B:Nat} {ρ ρ':Rho} {σ σ':CSt} {w w':World} (f:Frm ρ σ w ρ' σ' w') {l:List CDef} {l':List Deferred} (h:DfR B ρ σ w l l'):DfR B ρ' σ' w' l l':=by
 induction h with
 |nil=>exact .nil
 |cons d d' l l' h _ ih=>exact .cons d d' l l' (h.mono f.le) ih
 |mark r l l' h hn _ ih=>exact .mark r l l' (h.frm f) hn ih
structure AR (B:Nat) (ρ:Rho) (σ:CSt) (w:World) (a:CAct) (ac:Act):Prop where
 sz:ac.tmps.size=a.sz
 tm:∀i,VR ρ (a.get i) (ac.tmps.getD i undef)
 df:DfR B ρ σ w a.df ac.defers
theorem AR.frm {B:Nat} {ρ ρ':Rho} {σ σ':CSt} {w w':World} (f:Frm ρ σ w ρ' σ' w') {a:CAct} {ac:Act} (h:AR B ρ σ w a ac):AR B ρ' σ' w' a ac:=⟨h.sz,λi=>(h.tm i).mono f.le,h.df.frm f⟩
theorem AR.eval {B:Nat} {P:Program} {ρ:Rho} {σ:CSt} {w:World} {a:CAct} {ac:Act} (hR:R P ρ σ w) (h:AR B ρ σ w a ac) (x:Operand):VR ρ (a.eval x) (ac.eval x):=by
 cases x with
 |tmp t=>exact h.tm t
 |const v=>
  simp only [CAct.eval,Act.eval];split
  ·rename_i hf;exact .of_flat hf
  ·exact .junk _
 |global g=>
  simp only [CAct.eval,Act.eval];split
  ·rename_i hg;obtain⟨p,h1,h2,h3⟩:=hR.glob g hg;have:=VR.ptr (ρ:=ρ) g 0 p h1;rw [h2,h3] at this;simpa using this
  ·exact .junk _
 |func f=>exact .func _ _ _ _ _ _ (.same _ λl e=>by cases e) rfl (λi u=>by simp at u) rfl (λi u=>by simp at u)
theorem qvk (tmps:Array Value) (d i:Nat) (v:Value):(tmps.setIfInBounds d v).getD i undef=if i=d∧d<tmps.size then v else tmps.getD i undef:=by
 rw [Array.getD_eq_getD_getElem?,Array.getD_eq_getD_getElem?,Array.getElem?_setIfInBounds];by_cases h:d=i
 ·subst h;by_cases k:d<tmps.size
  ·simp [k]
  ·simp [k]
 ·rw [if_neg h,if_neg (λe=>h e.1.symm)]
theorem CAct.get_put (a:CAct) (d i:Nat) (v:Value):(a.put (some d) v).get i=if i=d∧d<a.sz then v else a.get i:=by
 unfold CAct.put CAct.get;by_cases h:d<a.sz
 ·simp only [h,if_true,Tr.get_set,and_true];by_cases e:i=d<;>simp [e]
 ·simp [h]
theorem CAct.sz_put (a:CAct) (d:Option Tmp) (v:Value):(a.put d v).sz=a.sz:=by
 unfold CAct.put;split
 ·split<;>rfl
 ·rfl
theorem CAct.df_put (a:CAct) (d:Option Tmp) (v:Value):(a.put d v).df=a.df:=by
 unfold CAct.put;split
 ·split<;>rfl
 ·rfl
theorem CAct.tk_put (a:CAct) (d:Option Tmp) (v:Value):(a.put d v).tk=a.tk:=by
 unfold CAct.put;split
 ·split<;>rfl
 ·rfl
theorem AR.put {B:Nat} {ρ:Rho} {σ:CSt} {w:World} {a:CAct} {ac:Act} (h:AR B ρ σ w a ac) (d:Option Tmp) {v v':Value} (hv:VR ρ v v'):AR B ρ σ w (a.put d v) (ac.put d v'):=by
 cases d with
 |none=>exact h
 |some d=>
  refine⟨by rw [CAct.sz_put];simp [Act.put,h.sz],λi=> ?_,by rw [CAct.df_put];exact h.df⟩
  simp only [Act.put];rw [CAct.get_put,qvk,h.sz];split
  ·exact hv
  ·exact h.tm i
theorem VR.nope_eq {ρ:Rho} {v:Value} (h:VR ρ (.chan none) v):v= .tuple #[]:=by
 cases h with
 |plain v hf=>simp [qae] at hf
 |nope=>rfl
theorem qix {B:Nat} {ρ:Rho} {σ:CSt} {w:World} {a:CAct} {ac:Act} (h:AR B ρ σ w a ac) {ops:Array Oper} {o:Oper} {b:Bool} (hw:qaz ops a o=some b):Region.wanted o (yielded ops ac.tmps)=b:=by
 unfold qaz at hw;unfold Region.wanted;split at hw
 ·rename_i hg;cases hw;rw [hg]
 ·rename_i j want hg;rw [hg];simp only;split at hw
  ·rename_i d hd;split at hw
   ·rename_i hlt;have hr:=h.tm d;have hlt':d<ac.tmps.size:=by rw [h.sz];exact hlt
    rw [Array.getD_eq_getD_getElem?,Array.getElem?_eq_getElem hlt'] at hr;simp only [Option.getD_some] at hr;split at hw
    ·rename_i t ht;cases hw;rw [ht] at hr;have:=hr.bool;simp only [yielded,hd,Option.bind_some,Array.getElem?_eq_getElem hlt',this];cases t<;>cases want<;>rfl
    ·rename_i ht;cases hw;rw [ht] at hr;have hx:=hr.nope_eq;simp only [yielded,hd,Option.bind_some,Array.getElem?_eq_getElem hlt',hx]
     rfl
    ·cases hw
   ·cases hw
  ·cases hw
def qgv (c:Frame):Frame:={c with mode:=match c.mode with| .panicking (p::l)=> .panicking ({p with recovered:=true}::l)|m=>m}
def qfn (cs:List Frame) (tk:Bool):List Frame:=if tk then(match cs with|c::r=>qgv c::r| []=> []) else cs
def qyp (ρ:Rho):Option Nat→Option Nat→Prop
 |none,none=>True
 |some l,some r=>∃p,ρ l=some p∧p.b=r
 |_,_=>False
def DkOk (ρ:Rho) (kind:CallKind) (cs:List Frame):Option (Option Value)→Prop
 |none=>kind= .normal
 |some none=>kind= .deferred∧∃c r,cs=c::r∧c.mode= .returning
 |some (some v)=>kind= .deferred∧∃c r v',cs=c::r∧c.mode= .panicking [{v:=v',recovered:=false}]∧VR ρ v v'
structure FrOk (ρ:Rho) (x:Ctx) (b:Frame) (cs:List Frame):Prop where
 fn:b.fn=x.f
 rnd:qyp ρ x.rnd b.roundOf
 dk:DkOk ρ b.kind cs x.dk
theorem qyp.mono {ρ ρ':Rho} (hr:ρ.le ρ') {a b:Option Nat} (h:qyp ρ a b):qyp ρ' a b:=by
 cases a<;>cases b<;>simp only [qyp] at h⊢
 obtain⟨p,h1,h2⟩:=h;exact⟨p,hr _ _ h1,h2⟩
theorem DkOk.mono {ρ ρ':Rho} (hr:ρ.le ρ') {kind:CallKind} {cs:List Frame} {d:Option (Option Value)} (h:DkOk ρ kind cs d):DkOk ρ' kind cs d:=by
 cases d with
 |none=>exact h
 |some d=>cases d with
  |none=>exact h
  |some v=>obtain⟨h1,c,r,v',h2,h3,h4⟩:=h;exact⟨h1,c,r,v',h2,h3,h4.mono hr⟩
theorem FrOk.mono {ρ ρ':Rho} (hr:ρ.le ρ') {x:Ctx} {b:Frame} {cs:List Frame} (h:FrOk ρ x b cs):FrOk ρ' x b cs:=⟨h.fn,h.rnd.mono hr,h.dk.mono hr⟩
def qhp (v:Value):FrameMode:= .panicking [{v:=v,recovered:=false}]
def qw9 (P:Program) (m:Machine) (b:Frame) (k:List Item) (cs:List Frame) (ρ:Rho) (ac:Act) (w:World):CEx→Prop
 | .normal=>Steps P m (lone (atR b ac k) cs w)
 | .exit i=>∃t,exitTo i t=exitTo i k∧Steps P m (lone (atR b ac (.code (.exit i)::t)) cs w)
 | .goto l=>∃t,gotoIn l t=gotoIn l k∧Steps P m (lone (atR b ac (.code (.goto l)::t)) cs w)
 | .ret=>∃t,Steps P m (lone (atR b ac (.code .ret::t)) cs w)
 | .panic v=>∃t v',VR ρ v v'∧Steps P m (lone {atR b ac t with mode:=qhp v'} cs w)
theorem qw9.of_steps {P:Program} {m m₁:Machine} {b:Frame} {k:List Item} {cs:List Frame} {ρ:Rho} {ac:Act} {w:World} {e:CEx} (h:Steps P m m₁) (h':qw9 P m₁ b k cs ρ ac w e):qw9 P m b k cs ρ ac w e:=by
 cases e with
 |normal=>exact h.trans h'
 |exit i=>obtain⟨t,h1,h2⟩:=h';exact⟨t,h1,h.trans h2⟩
 |goto l=>obtain⟨t,h1,h2⟩:=h';exact⟨t,h1,h.trans h2⟩
 |ret=>obtain⟨t,h2⟩:=h';exact⟨t,h.trans h2⟩
 |panic v=>obtain⟨t,v',h1,h2⟩:=h';exact⟨t,v',h1,h.trans h2⟩
def qvs (x:Item):Prop:=match x with| .inBlock _| .inScope _=>False|_=>True
theorem qw9.pass {P:Program} {m:Machine} {b:Frame} {x:Item} {k:List Item} {cs:List Frame} {ρ:Rho} {ac:Act} {w:World} {e:CEx} (hx:qvs x) (hn:e≠ .normal) (h:qw9 P m b (x::k) cs ρ ac w e):qw9 P m b k cs ρ ac w e:=by
 have h1:∀i,exitTo i (x::k)=exitTo i k:=λi=>by cases x<;>simp_all [exitTo,qvs]
 have h2:∀l,gotoIn l (x::k)=gotoIn l k:=λl=>by cases x<;>simp_all [gotoIn,qvs]
 cases e with
 |normal=>exact absurd rfl hn
 |exit i=>obtain⟨t,h3,h4⟩:=h;exact⟨t,h3.trans (h1 i),h4⟩
 |goto l=>obtain⟨t,h3,h4⟩:=h;exact⟨t,h3.trans (h2 l),h4⟩
 |ret=>exact h
 |panic v=>exact h
def qf4 (P:Program) (x:Ctx) (a:CAct) (σ:CSt) (todo:List Item→List Item) (Q:Out→CSt→Prop):Prop:=
 ∀(B:Nat) (ρ:Rho) (w:World) (ac:Act) (b:Frame) (k:List Item) (cs:List Frame),B≤w.heap.size→R P ρ σ w→AR B ρ σ w a ac→FrOk ρ x b cs→(x.dk=none→a.tk=false)→
  ∃(e:CEx) (a':CAct) (σ':CSt) (ρ':Rho) (w':World) (ac':Act),Q (.code e a') σ'∧R P ρ' σ' w'∧AR B ρ' σ' w' a' ac'∧Frm ρ σ w ρ' σ' w'∧(x.dk=none→a'.tk=false)∧
   qw9 P (lone (atR b ac (todo k)) (qfn cs a.tk) w) b k (qfn cs a'.tk) ρ' ac' w' e
def qgl (dk:Option (Option Value)):CallKind:=if dk.isSome then .deferred else .normal
structure FrmB (B:Nat) (ρ:Rho) (σ:CSt) (w:World) (ρ':Rho) (σ':CSt) (w':World):Prop where
 le:ρ.le ρ'
 os:w'.os=w.os
 tape:w'.tape=w.tape
 output:w'.output=w.output
 size:w.heap.size≤w'.heap.size
 keep:∀k,k<B→(∀i p,ρ i=some p→rw_ σ i→p.b≠k)→w'.heap[k]? =w.heap[k]?
 fresh:∀i p,ρ' i=some p→rw_ σ' i→B≤p.b∨∃j q,ρ j=some q∧rw_ σ j∧q.b=p.b
theorem Frm.toB {B:Nat} {ρ ρ':Rho} {σ σ':CSt} {w w':World} (h:Frm ρ σ w ρ' σ' w') (hB:B≤w.heap.size):FrmB B ρ σ w ρ' σ' w':=
 ⟨h.le,h.os,h.tape,h.output,h.size,λk hk=>h.keep k (Nat.lt_of_lt_of_le hk hB),λi p a b=>(h.fresh i p a b).imp (Nat.le_trans hB) id⟩
theorem FrmB.toFrm {ρ ρ':Rho} {σ σ':CSt} {w w':World} (h:FrmB w.heap.size ρ σ w ρ' σ' w'):Frm ρ σ w ρ' σ' w':=⟨h.le,h.os,h.tape,h.output,h.size,h.keep,h.fresh⟩
theorem FrmB.trans {B:Nat} {ρ₁ ρ₂ ρ₃:Rho} {σ₁ σ₂ σ₃:CSt} {w₁ w₂ w₃:World} (h:FrmB B ρ₁ σ₁ w₁ ρ₂ σ₂ w₂) (k:FrmB B ρ₂ σ₂ w₂ ρ₃ σ₃ w₃):FrmB B ρ₁ σ₁ w₁ ρ₃ σ₃ w₃ where
 le:=Rho.le_trans h.le k.le
 os:=k.os.trans h.os
 tape:=k.tape.trans h.tape
 output:=k.output.trans h.output
 size:=Nat.le_trans h.size k.size
 keep:=λb hb hn=>by
  rw [k.keep b hb λi p hp hr e=> ?_,h.keep b hb hn]
  rcases h.fresh i p hp hr with h1|⟨j,q,h1,h2,h3⟩
  ·omega
  ·exact hn j q h1 h2 (h3.trans e)
 fresh:=λi p hp hr=>by
  rcases k.fresh i p hp hr with h1|⟨j,q,h1,h2,h3⟩
  ·exact .inl h1
  ·rcases h.fresh j q h1 h2 with h4|⟨j',q',h4,h5,h6⟩
   ·exact .inl (h3▸h4)
   ·exact .inr ⟨j',q',h4,h5,h6.trans h3⟩
def qq1 (B:Nat) (P:Program) (m:Machine) (f:FuncId) (cs:List Frame) (dk:Option (Option Value)) (ρ:Rho) (σ:CSt) (w:World) (Q:Out→CSt→Prop):Prop:=
 (∃(v:Value) (tk:Bool) (σ':CSt) (ρ':Rho) (w':World) (v':Value) (fr:Frame),Q (.ret v tk) σ'∧R P ρ' σ' w'∧FrmB B ρ σ w ρ' σ' w'∧VR ρ' v v'∧Steps P m (lone fr (qfn cs tk) w')∧(dk=none→tk=false)∧
  fr.fn=f∧fr.kind=qgl dk∧fr.mode= .returning∧fr.defers= []∧∃fn,P.funcs[f]? =some fn∧(results fn fr.tmps).run P w'= .ok v' w')∨
 (∃(v:Value) (σ':CSt) (ρ':Rho) (w':World) (v':Value) (fr:Frame),Q (.pan v) σ'∧R P ρ' σ' w'∧FrmB B ρ σ w ρ' σ' w'∧VR ρ' v v'∧Steps P m (lone fr cs w')∧dk=none∧
  fr.fn=f∧fr.mode=qhp v'∧fr.defers= []∧∃fn,P.funcs[f]? =some fn)
def qfe (P:Program) (f:FuncId) (args:Array Value) (dk:Option (Option Value)) (σ:CSt) (Q:Out→CSt→Prop):Prop:=
 (∃fn,P.funcs[f]? =some fn∧fn.body.isSome=true)∧
 ∀(ρ:Rho) (w:World) (args':Array Value) (cs:List Frame),R P ρ σ w→AsR ρ args args'→DkOk ρ (qgl dk) cs dk→qq1 w.heap.size P (lone (Frame.enter P f args' (qgl dk)) cs w) f cs dk ρ σ w Q
def qf1:Option Value→FrameMode
 |none=> .returning
 |some v=>qhp v
def qut (P:Program) (x:Ctx) (a:CAct) (m:Option Value) (σ:CSt) (Q:Out→CSt→Prop):Prop:=
 ∀(B:Nat) (ρ:Rho) (w:World) (ac:Act) (b:Frame) (t:List Item) (cs:List Frame) (m':Option Value),B≤w.heap.size→R P ρ σ w→AR B ρ σ w a ac→b.fn=x.f→b.roundOf=none→b.kind=qgl x.dk→DkOk ρ b.kind cs x.dk→qr3 ρ m m'→(x.dk=none→a.tk=false)→
  qq1 B P (lone {atR b ac t with mode:=qf1 m'} (qfn cs a.tk) w) x.f cs x.dk ρ σ w Q
def qt6 (P:Program) (m:Machine) (c:Frame) (cs:List Frame) (ρ:Rho) (σ:CSt) (w:World) (Q:Out→CSt→Prop):Prop:=
 (∃(v:Value) (tk:Bool) (σ':CSt) (ρ':Rho) (w':World) (v':Value),Q (.ret v tk) σ'∧R P ρ' σ' w'∧Frm ρ σ w ρ' σ' w'∧VR ρ' v v'∧Steps P m (lone (c.finish v') cs w'))∨
 (∃(v:Value) (σ':CSt) (ρ':Rho) (w':World) (v':Value),Q (.pan v) σ'∧R P ρ' σ' w'∧Frm ρ σ w ρ' σ' w'∧VR ρ' v v'∧Steps P m (lone (c.raise [{v:=v',recovered:=false}]) cs w'))
def SimRound (P:Program) (l:Nat) (args:Array Value) (σ:CSt) (Q:Out→CSt→Prop):Prop:=
 ∀(ρ:Rho) (w:World) (args':Array Value) (p:Place) (r:Loop) (c:Frame) (cs:List Frame),R P ρ σ w→AsR ρ args args'→ρ l=some p→w.heap[p.b]? =some (.loop r)→
  args'.size=r.params.size∧qt6 P (lone (Frame.round p.b r.fn ((r.params.zip args').foldl (λtmps (t,a)=>tmps.setIfInBounds t a) r.tmps) r.assign r.body .normal) (c::cs) w) c cs ρ σ w Q
def qj5 (P:Program) (t:Task) (σ:CSt) (Q:Out→CSt→Prop):Prop:=
 match t with
 | .code x c a=>qf4 P x a σ (λk=> .code c::k) Q
 | .scope x body c a=>qf4 P x a σ (λk=> .code c:: .inScope body::k) Q
 | .ops x ops todo a=>qf4 P x a σ (λk=> .inRegion ops todo::k) Q
 | .fn f args dk=>qfe P f args dk σ Q
 | .unw x a m=>qut P x a m σ Q
 | .round l args=>(∃st pend fn tm sz ps asg body,σ.get l=some (.loop st pend fn tm sz ps asg body))∧SimRound P l args σ Q
structure Good (P:Program):Prop where
 ng:∀(f:FuncId) (fn:Func),P.funcs[f]? =some fn→fn.body.isSome=true→(fn.name== "runtime.NumGoroutine")=false
 mixed:P.follows .mixedOrders=true
theorem AsR.append {ρ:Rho} {as0 bs cs ds:Array Value} (h:AsR ρ as0 bs) (k:AsR ρ cs ds):AsR ρ (as0++cs) (bs++ds):=by
 have:=(h.toList.append k.toList).toArray;rw [←Array.toList_append,←Array.toList_append,Array.toArray_toList,Array.toArray_toList] at this;exact this
section
variable {P:Program}
theorem qjb {fr c:Frame} {cs:List Frame} {w:World} {v:Value} {fn:Func} (hm:fr.mode= .returning) (hd:fr.defers= []) (hk:fr.kind= .normal) (hf:P.funcs[fr.fn]? =some fn) (hr:(results fn fr.tmps).run P w= .ok v w):
  step P (lone fr (c::cs) w)= .next (lone (c.finish v) cs w):=step_lone_go (by simp [stepG,unwind,doReturn,hm,hd,hk,hf,hr])
theorem qf9 {fr c:Frame} {cs:List Frame} {w:World} {chain:List PanicEntry} {fn:Func} (hm:fr.mode= .panicking chain) (hd:fr.defers= []) (hf:P.funcs[fr.fn]? =some fn):
  step P (lone fr (c::cs) w)= .next (lone (c.raise chain) cs w):=step_lone_go (by simp [stepG,unwind,Frame.catches,hm,hd,hf])
theorem qq1.pop {m:Machine} {f:FuncId} {c:Frame} {cs:List Frame} {ρ:Rho} {σ:CSt} {w:World} {Q:Out→CSt→Prop} (h:qq1 w.heap.size P m f (c::cs) none ρ σ w Q):qt6 P m c cs ρ σ w Q:=by
 rcases h with⟨v,tk,σ',ρ',w',v',fr,h1,h2,h3,h4,h5,h0,h6,h7,h8,h9,fn,h10,h11⟩|⟨v,σ',ρ',w',v',fr,h1,h2,h3,h4,h5,_,h6,h8,h9,fn,h10⟩
 ·obtain rfl:=h0 rfl;exact .inl ⟨v,false,σ',ρ',w',v',h1,h2,h3.toFrm,h4,h5.trans (.one (qjb h8 h9 h7 (by rw [h6];exact h10) h11))⟩
 ·exact .inr ⟨v,σ',ρ',w',v',h1,h2,h3.toFrm,h4,h5.trans (.one (qf9 h8 h9 (by rw [h6];exact h10)))⟩
theorem qr9 (G:Good P) {fv fv':Value} {args args':Array Value} {ρ:Rho} {σ:CSt} {w:World} {Q:Out→CSt→Prop} (h:qf6 qg7 (qj5 P) fv args none σ Q) (hR:R P ρ σ w) (hv:VR ρ fv fv') (ha:AsR ρ args args'):
  (∃f as0,(do let d ←Deferred.ofValue fv' args';invoke d.target d.args).run P w= .ok (.enter f as0) w∧∀c cs,qt6 P (lone (Frame.enter P f as0 .normal) (c::cs) w) c cs ρ σ w Q)∨
  (∃l f tmps asg body,(do let d ←Deferred.ofValue fv' args';invoke d.target d.args).run P w= .ok (.round l f tmps asg body) w∧∀c cs,qt6 P (lone (Frame.round l f tmps asg body .normal) (c::cs) w) c cs ρ σ w Q):=by
 unfold qf6 at h;split at h
 ·rename_i g first captured
  obtain⟨bs,ds,rfl,h1,h2⟩:=hv.funcF;obtain⟨⟨fn,hf,hb⟩,hs⟩:=h;have hng:=G.ng g fn hf hb;refine .inl ⟨g,bs++args'++ds, ?_,λc cs=> ?_⟩
  ·have hb':fn.body.isNone=false:=by cases hbb:fn.body<;>simp_all
   simp only [Deferred.ofValue,Sem.run_bind,Sem.run_pure,Result.andThen_ok,invoke,callFunc,run_program,hf];rw [hng,hb']
   rfl
  ·have:=hs ρ w (bs++args'++ds) (c::cs) hR ((h1.append ha).append h2) rfl;exact this.pop
 ·rename_i l first captured
  simp only [Option.isSome_none,Bool.false_eq_true,if_false] at h;obtain⟨p,bs,ds,hp,rfl,h1,h2⟩:=hv.funcY;obtain⟨⟨st,pend,fn,tm,sz,ps,asg,body,hg⟩,hs⟩:=h;obtain⟨r,g1,_⟩:=hR.obj l _ p hg hp;have hargs:AsR ρ (first++args) (bs++args'):=h1.append ha
  have hsz:(bs++args').size=r.params.size:=(hs ρ w (bs++args') p r default [] hR hargs hp g1).1;refine .inr ⟨p.b,r.fn,_,r.assign,r.body, ?_,λc cs=>(hs ρ w (bs++args') p r c cs hR hargs hp g1).2⟩
  have hgo:(Instr.getLoop p.b).run P w= .ok r w:=by simp [Instr.getLoop,getObj,Sem.run,g1]
  simp only [Deferred.ofValue,Sem.run_bind,Sem.run_pure,Result.andThen_ok,invoke,Instr.yield,hgo,hsz];simp
 ·exact h.elim
end
section
variable {P:Program}
theorem qf4.then {x:Ctx} {a:CAct} {σ:CSt} {todo₁ todo₂:List Item→List Item} {Q:Out→CSt→Prop} {it:Item} (hp:qvs it)
  (h:qf4 P x a σ todo₁ (λo σ'=>match o with| .code .normal a'=>qf4 P x a' σ' (λk=>it::k) Q|o=>Q o σ'))
  (hs:∀(b:Frame) (ac:Act) (k:List Item) (cs:List Frame) (w:World),Steps P (lone (atR b ac (todo₂ k)) cs w) (lone (atR b ac (todo₁ (it::k))) cs w)):qf4 P x a σ todo₂ Q:=by
 intro B ρ w ac b k cs hB hR hA hF ht;obtain⟨e,a₁,σ₁,ρ₁,w₁,ac₁,hq,hR₁,hA₁,hf₁,ht₁,harr⟩:=h B ρ w ac b (it::k) cs hB hR hA hF ht;have harr:=qw9.of_steps (hs b ac k (qfn cs a.tk) w) harr;cases e with
 |normal=>
  obtain⟨e₂,a₂,σ₂,ρ₂,w₂,ac₂,hq₂,hR₂,hA₂,hf₂,ht₂,harr₂⟩:=hq B ρ₁ w₁ ac₁ b k cs (Nat.le_trans hB hf₁.size) hR₁ hA₁ (hF.mono hf₁.le) ht₁;exact⟨e₂,a₂,σ₂,ρ₂,w₂,ac₂,hq₂,hR₂,hA₂,hf₁.trans hf₂,ht₂, .of_steps harr harr₂⟩
 |exit i=>exact⟨_,a₁,σ₁,ρ₁,w₁,ac₁,hq,hR₁,hA₁,hf₁,ht₁,harr.pass hp (by simp)⟩
 |goto l=>exact⟨_,a₁,σ₁,ρ₁,w₁,ac₁,hq,hR₁,hA₁,hf₁,ht₁,harr.pass hp (by simp)⟩
 |ret=>exact⟨_,a₁,σ₁,ρ₁,w₁,ac₁,hq,hR₁,hA₁,hf₁,ht₁,harr.pass hp (by simp)⟩
 |panic v=>exact⟨_,a₁,σ₁,ρ₁,w₁,ac₁,hq,hR₁,hA₁,hf₁,ht₁,harr.pass hp (by simp)⟩
theorem qf4.steps {x:Ctx} {a:CAct} {σ:CSt} {todo₁ todo₂:List Item→List Item} {Q:Out→CSt→Prop} (h:qf4 P x a σ todo₁ Q)
  (hs:∀(b:Frame) (ac:Act) (k:List Item) (cs:List Frame) (w:World),Steps P (lone (atR b ac (todo₂ k)) cs w) (lone (atR b ac (todo₁ k)) cs w)):qf4 P x a σ todo₂ Q:=by
 intro B ρ w ac b k cs hB hR hA hF ht;obtain⟨e,a₁,σ₁,ρ₁,w₁,ac₁,hq,hR₁,hA₁,hf₁,ht₁,harr⟩:=h B ρ w ac b k cs hB hR hA hF ht;exact⟨e,a₁,σ₁,ρ₁,w₁,ac₁,hq,hR₁,hA₁,hf₁,ht₁, .of_steps (hs b ac k (qfn cs a.tk) w) harr⟩
theorem qf4.now {x:Ctx} {a:CAct} {σ:CSt} {todo:List Item→List Item} {Q:Out→CSt→Prop} {e:CEx} (hq:Q (.code e a) σ)
  (hs:∀(ρ:Rho) (b:Frame) (ac:Act) (k:List Item) (cs:List Frame) (w:World),qw9 P (lone (atR b ac (todo k)) cs w) b k cs ρ ac w e):qf4 P x a σ todo Q:=
 λB ρ w ac b k cs hB hR hA hF ht=>⟨e,a,σ,ρ,w,ac,hq,hR,hA,Frm.refl ..,ht,hs _ _ _ _ _ _⟩
theorem sim_skip {x:Ctx} {a:CAct} {σ:CSt} {Q:Out→CSt→Prop} (hq:Q (.code .normal a) σ):qf4 P x a σ (λk=> .code .skip::k) Q:= .now hq λ_ _ _ _ _ _=> .one st_skip
theorem zb0 {x:Ctx} {a:CAct} {σ:CSt} {l:Nat} {Q:Out→CSt→Prop} (hq:Q (.code .normal a) σ):qf4 P x a σ (λk=> .code (.label l)::k) Q:= .now hq λ_ _ _ _ _ _=> .one st_label
theorem qzy {x:Ctx} {a:CAct} {σ:CSt} {id:Nat} {c:Code} {Q:Out→CSt→Prop}
  (h:qf4 P x a σ (λk=> .code c::k) (λo σ'=>match o with| .code (.exit i) a'=>if i=id then Q (.code .normal a') σ' else Q o σ'|o=>Q o σ')):qf4 P x a σ (λk=> .code (.block id c)::k) Q:=by
 intro B ρ w ac b k cs hB hR hA hF ht;obtain⟨e,a₁,σ₁,ρ₁,w₁,ac₁,hq,hR₁,hA₁,hf₁,ht₁,harr⟩:=h B ρ w ac b (.inBlock id::k) cs hB hR hA hF ht;have hs:=λcs=>Steps.one (st_block (P:=P) (b:=b) (a:=ac) (k:=k) (cs:=cs) (w:=w) (id:=id) (c:=c))
 cases e with
 |normal=>exact⟨.normal,a₁,σ₁,ρ₁,w₁,ac₁,hq,hR₁,hA₁,hf₁,ht₁,(hs _).trans (Steps.trans harr (.one qx2))⟩
 |exit i=>
  obtain⟨t,h1,h2⟩:=harr;simp only at hq;by_cases hi:i=id
  ·rw [if_pos hi] at hq;have:exitTo i t=some k:=by rw [h1,hi];simp [exitTo]
   exact⟨.normal,a₁,σ₁,ρ₁,w₁,ac₁,hq,hR₁,hA₁,hf₁,ht₁,(hs _).trans (h2.trans (.one (st_exit this)))⟩
  ·rw [if_neg hi] at hq;have hb:(id==i)=false:=by simp;exact λe=>hi e.symm
   exact⟨.exit i,a₁,σ₁,ρ₁,w₁,ac₁,hq,hR₁,hA₁,hf₁,ht₁,t,by rw [h1];simp [exitTo,hb],(hs _).trans h2⟩
 |goto l=>obtain⟨t,h1,h2⟩:=harr;exact⟨_,a₁,σ₁,ρ₁,w₁,ac₁,hq,hR₁,hA₁,hf₁,ht₁,t,by rw [h1];simp [gotoIn],(hs _).trans h2⟩
 |ret=>obtain⟨t,h2⟩:=harr;exact⟨_,a₁,σ₁,ρ₁,w₁,ac₁,hq,hR₁,hA₁,hf₁,ht₁,t,(hs _).trans h2⟩
 |panic v=>obtain⟨t,v',h1,h2⟩:=harr;exact⟨_,a₁,σ₁,ρ₁,w₁,ac₁,hq,hR₁,hA₁,hf₁,ht₁,t,v',h1,(hs _).trans h2⟩
theorem qzx {x:Ctx} {a:CAct} {σ:CSt} {body c:Code} {Q:Out→CSt→Prop}
  (h:qf4 P x a σ (λk=> .code c::k) (λo σ'=>match o with
   | .code (.goto l) a'=>match findLabel body l with|some rest=>qf4 P x a' σ' (λk=> .code rest:: .inScope body::k) Q|none=>Q o σ'
   |o=>Q o σ')):qf4 P x a σ (λk=> .code c:: .inScope body::k) Q:=by
 intro B ρ w ac b k cs hB hR hA hF ht;obtain⟨e,a₁,σ₁,ρ₁,w₁,ac₁,hq,hR₁,hA₁,hf₁,ht₁,harr⟩:=h B ρ w ac b (.inScope body::k) cs hB hR hA hF ht;cases e with
 |normal=>exact⟨.normal,a₁,σ₁,ρ₁,w₁,ac₁,hq,hR₁,hA₁,hf₁,ht₁,Steps.trans harr (.one qy2)⟩
 |goto l=>
  obtain⟨t,h1,h2⟩:=harr;simp only at hq;cases hfl:findLabel body l with
  |none=>
   rw [hfl] at hq;exact⟨_,a₁,σ₁,ρ₁,w₁,ac₁,hq,hR₁,hA₁,hf₁,ht₁,t,by rw [h1];simp [gotoIn,hfl],h2⟩
  |some rest=>
   rw [hfl] at hq;have:gotoIn l t=some (.code rest:: .inScope body::k):=by rw [h1];simp [gotoIn,hfl]
   obtain⟨e₂,a₂,σ₂,ρ₂,w₂,ac₂,hq₂,hR₂,hA₂,hf₂,ht₂,harr₂⟩:=hq B ρ₁ w₁ ac₁ b k cs (Nat.le_trans hB hf₁.size) hR₁ hA₁ (hF.mono hf₁.le) ht₁;exact⟨e₂,a₂,σ₂,ρ₂,w₂,ac₂,hq₂,hR₂,hA₂,hf₁.trans hf₂,ht₂, .of_steps (h2.trans (.one (st_goto this))) harr₂⟩
 |exit i=>obtain⟨t,h1,h2⟩:=harr;exact⟨_,a₁,σ₁,ρ₁,w₁,ac₁,hq,hR₁,hA₁,hf₁,ht₁,t,by rw [h1];simp [exitTo],h2⟩
 |ret=>exact⟨_,a₁,σ₁,ρ₁,w₁,ac₁,hq,hR₁,hA₁,hf₁,ht₁,harr⟩
 |panic v=>exact⟨_,a₁,σ₁,ρ₁,w₁,ac₁,hq,hR₁,hA₁,hf₁,ht₁,harr⟩
theorem evOk {B:Nat} {ρ:Rho} {σ:CSt} {w:World} {a:CAct} {ac:Act} (hR:R P ρ σ w) (hA:AR B ρ σ w a ac) (o:Oper):∀x∈o.op.operands,VR ρ (a.eval x) (ac.eval x):=λx _=>hA.eval hR x
theorem zbm {ρ:Rho} {x:Ctx} {b:Frame} {cs:List Frame} (hF:FrOk ρ x b cs) {o:Oper} (h:x.rnd=none∨∀c,o.op≠ .defer c):b.roundOf=none∨∀c,o.op≠ .defer c:=by
 rcases h with h|h
 ·left
  have:=hF.rnd;rw [h] at this;cases hb:b.roundOf with
  |none=>rfl
  |some r=>rw [hb] at this;exact this.elim
 ·exact .inr h
theorem qgp {σ:CSt} {ev:Operand→Value} {o:Oper} (h:∀d,cop P σ ev o≠ .defer d) (h2:cop P σ ev o≠ .fail):∀c,o.op≠ .defer c:=by
 intro c hop;unfold cop at h h2;rw [hop] at h h2;simp only at h h2;split at h2
 ·rename_i f hf;split at h2
  ·rename_i g fs cs hg;simp only [hf,hg] at h;exact h _ rfl
  ·exact h2 rfl
 ·exact h2 rfl
theorem qjd (b:Frame) (ac:Act) (ops:Array Oper) (i:Nat) (rest:List Nat) (k:List Item) (o:Oper) (ho:ops[i]? =some o) (v:Value):
  (atR b ac (.inRegion ops (i::rest)::k)).finish v=atR b (ac.put o.dst v) (.inRegion ops rest::k):=by
 rw [qfi,ho];rfl
def qmj (E:Env):Prop:=∀g (args:Array Value) (σ:CSt) (v:Value),E.ext g args σ=some v→∀(ρ:Rho) (w:World) (args':Array Value),R E.P ρ σ w→AsR ρ args args'→
 ∃v' w',Sw w w'∧(callFunc g args').run E.P w= .ok (.value v') w'∧VR ρ v v'
theorem AsR.nil_eq {ρ:Rho} {a:Array Value} (h:AsR ρ ⟨[]⟩ a):a= #[]:=by
 have:=h.1;exact Array.eq_empty_of_size_eq_zero (by simpa using this.symm)
theorem ext_op {E:Env} (HE:qmj E) {fv:Value} {args:Array Value} {σ:CSt} {v:Value} (h:qcr E fv args σ=some v) {ρ:Rho} {w:World} (hR:R E.P ρ σ w) {fv':Value} {args':Array Value} (hfv:VR ρ fv fv') (ha:AsR ρ args args'):
  qe7 E.P ρ σ w ((do let d ←Deferred.ofValue fv' args';invoke d.target d.args:Sem Next).run E.P w) v σ:=by
 unfold qcr at h;split at h
 ·rename_i g;obtain⟨bs,ds,rfl,h1,h2⟩:=hfv.funcF;obtain rfl:=h1.nil_eq;obtain rfl:=h2.nil_eq;obtain⟨v',w',hsw,hr,hv⟩:=HE g args σ v h ρ w args' hR ha;obtain⟨r1,r2⟩:=hR.same hsw;refine⟨.value v',v',ρ,w', ?_, .inl rfl,r1,hv,r2⟩;simp [Deferred.ofValue,Sem.run_bind,Sem.run_pure,Result.andThen_ok,invoke,hr]
 ·cases h
theorem zb6 {E:Env} (G:Good E.P) (HE:qmj E) {x:Ctx} {ops:Array Oper} {todo:List Nat} {a:CAct} {σ:CSt} {Q:Out→CSt→Prop} (h:F qg7 E (qj5 E.P) (.ops x ops todo a) σ Q):qf4 E.P x a σ (λk=> .inRegion ops todo::k) Q:=by
 simp only [F] at h;cases todo with
 |nil=>exact .now h λ_ _ _ _ _ _=> .one qi6
 |cons i rest=>
  simp only at h;cases ho:ops[i]? with
  |none=>
   rw [ho] at h;refine qf4.steps h λb ac k cs w=> .one ?_
   have:=qmq (P:=E.P) (b:=b) (a:=ac) (k:=k) (cs:=cs) (w:=w) (ops:=ops) (i:=i) (rest:=rest) (by simp [ho])
   simpa [ho,Act.put] using this
  |some o=>
   rw [ho] at h;simp only at h;cases hw:qaz ops a o with
   |none=>rw [hw] at h;exact h.elim
   |some wb=>
    rw [hw] at h;cases wb with
    |false=>
     intro B ρ w ac b k cs hB hR hA hF ht;have hwf:=qix hA hw;have hst:=qmq (P:=E.P) (b:=b) (a:=ac) (k:=k) (cs:=qfn cs a.tk) (w:=w) (ops:=ops) (i:=i) (rest:=rest) (by simp [ho,hwf])
     rw [ho] at hst;obtain⟨e,a₁,σ₁,ρ₁,w₁,ac₁,hq,hR₁,hA₁,hf₁,ht₁,harr⟩:=h B ρ w (ac.put o.dst undef) b k cs hB hR (hA.put o.dst .nope) hF (by rw [CAct.tk_put];exact ht)
     rw [CAct.tk_put] at harr;exact⟨e,a₁,σ₁,ρ₁,w₁,ac₁,hq,hR₁,hA₁,hf₁,ht₁, .of_steps (.one hst) harr⟩
    |true=>
     simp only at h;intro B ρ w ac b k cs hB hR hA hF ht;have hwt:=qix hA hw;have hev:=evOk hR hA o
     --an operation that answers
     have value:∀{v:Value} {σ':CSt},qe7 E.P ρ σ w ((execOp ac.eval o).run E.P w) v σ'→(b.roundOf=none∨∀c,o.op≠ .defer c)→qf4 E.P x (a.put o.dst v) σ' (λk=> .inRegion ops rest::k) Q→
       ∃(e:CEx) (a':CAct) (σ':CSt) (ρ':Rho) (w':World) (ac':Act),Q (.code e a') σ'∧R E.P ρ' σ' w'∧AR B ρ' σ' w' a' ac'∧Frm ρ σ w ρ' σ' w'∧(x.dk=none→a'.tk=false)∧
        qw9 E.P (lone (atR b ac (.inRegion ops (i::rest)::k)) (qfn cs a.tk) w) b k (qfn cs a'.tk) ρ' ac' w' e:=by
      intro v σ' hok hnd hs;obtain⟨n,v',ρ',w',hr,hn,hR',hv,hf⟩:=hok;have hst:=qst (P:=E.P) (b:=b) (a:=ac) (k:=k) (cs:=qfn cs a.tk) (rest:=rest) ho hwt hnd hr hn;obtain⟨e,a₁,σ₁,ρ₁,w₁,ac₁,hq,hR₁,hA₁,hf₁,ht₁,harr⟩:=hs B ρ' w' (ac.put o.dst v') b k cs (Nat.le_trans hB hf.size) hR' ((hA.frm hf).put o.dst hv) (hF.mono hf.le) (by rw [CAct.tk_put];exact ht)
      rw [CAct.tk_put] at harr;exact⟨e,a₁,σ₁,ρ₁,w₁,ac₁,hq,hR₁,hA₁,hf.trans hf₁,ht₁, .of_steps (.one hst) harr⟩
     cases hc:cop E.P σ a.eval o with
     |val v σ'=>
      rw [hc] at h;exact value (cop_val hR hev hc) (.inr (qgp (by rw [hc];intro d;simp) (by rw [hc];simp))) h
     |pick n kk=>
      rw [hc] at h;obtain⟨j,h1,h2,hok⟩:=cop_pick hR hev hc;refine value hok (.inr (qgp (by rw [hc];intro d;simp) (by rw [hc];simp))) ?_
      simp only [qmc] at h;by_cases hn:n≤1
      ·rw [if_pos hn] at h;rw [h1 hn];exact h
      ·rw [if_neg hn] at h;exact h j (h2 (by omega))
     |every p kk=>
      rw [hc] at h;obtain⟨j,h1,hok⟩:=zbp hR hev hc;exact value hok (.inr (qgp (by rw [hc];intro d;simp) (by rw [hc];simp))) (h j h1)
     |call fv args=>
      rw [hc] at h;obtain⟨fv',args',hfv,hargs,hex⟩:=cop_call hev hc;have hnd:b.roundOf=none∨∀c,o.op≠ .defer c:= .inr (qgp (by rw [hc];intro d;simp) (by rw [hc];simp))
      simp only at h;cases hx:qcr E fv args σ with
      |some v=>
       rw [hx] at h;exact value (by rw [hex];exact ext_op HE hx hR hfv hargs) hnd h
      |none=>
      rw [hx] at h
      --behind the call
      have fin:∀m,Steps E.P (lone (atR b ac (.inRegion ops (i::rest)::k)) (qfn cs a.tk) w) m→qt6 E.P m (atR b ac (.inRegion ops (i::rest)::k)) (qfn cs a.tk) ρ σ w (λout σ'=>match out with
        | .ret v _=>qj5 E.P (.ops x ops rest (a.put o.dst v)) σ' Q| .pan v=>Q (.code (.panic v) a) σ'|_=>False)→
        ∃(e:CEx) (a':CAct) (σ':CSt) (ρ':Rho) (w':World) (ac':Act),Q (.code e a') σ'∧R E.P ρ' σ' w'∧AR B ρ' σ' w' a' ac'∧Frm ρ σ w ρ' σ' w'∧(x.dk=none→a'.tk=false)∧
         qw9 E.P (lone (atR b ac (.inRegion ops (i::rest)::k)) (qfn cs a.tk) w) b k (qfn cs a'.tk) ρ' ac' w' e:=by
       intro m hm hp;rcases hp with⟨v,tk,σ',ρ',w',v',hq,hR',hf,hv,hs⟩|⟨v,σ',ρ',w',v',hq,hR',hf,hv,hs⟩
       ·rw [qjd b ac ops i rest k o ho] at hs;obtain⟨e,a₁,σ₁,ρ₁,w₁,ac₁,hq₁,hR₁,hA₁,hf₁,ht₁,harr⟩:=hq B ρ' w' (ac.put o.dst v') b k cs (Nat.le_trans hB hf.size) hR' ((hA.frm hf).put o.dst hv) (hF.mono hf.le) (by rw [CAct.tk_put];exact ht)
        rw [CAct.tk_put] at harr;exact⟨e,a₁,σ₁,ρ₁,w₁,ac₁,hq₁,hR₁,hA₁,hf.trans hf₁,ht₁, .of_steps (hm.trans hs) harr⟩
       ·exact⟨.panic v,a,σ',ρ',w',ac,hq,hR',hA.frm hf,hf,ht,_,v',hv,hm.trans hs⟩
      rcases qr9 G h hR hfv hargs with⟨f,as0,hr,hp⟩|⟨l,f,tmps,asg,body,hr,hp⟩
      ·rw [←hex] at hr;exact fin _ (.one (qtj ho hwt hnd hr)) (hp _ _)
      ·rw [←hex] at hr;exact fin _ (.one (qso ho hwt hnd hr)) (hp _ _)
     |panic v=>
      rw [hc] at h;obtain⟨v',hv,hr⟩:=zas hev hc w;exact⟨.panic v,a,σ,ρ,w,ac,h,hR,hA,Frm.refl ..,ht,_,v',hv, .one (qrw ho hwt (.inr (qgp (by rw [hc];intro d;simp) (by rw [hc];simp))) hr)⟩
     |defer d=>
      rw [hc] at h;simp only at h;cases hrn:x.rnd with
      |some l=>rw [hrn] at h;exact h.elim
      |none=>
       rw [hrn] at h;simp only [Option.isSome_none,Bool.false_eq_true,if_false] at h;obtain⟨g,fs,cs',bs,ds,args',hd1,hd2,hd3,hd4,hr⟩:=zb9 hev hc w;have hb:=zbm hF (o:=o) (.inl hrn);have hb':b.roundOf=none:=by
        have:=hF.rnd;rw [hrn] at this;cases hbb:b.roundOf with
        |none=>rfl
        |some r=>rw [hbb] at this;exact this.elim
       have hst:=qse (P:=E.P) (b:=b) (a:=ac) (k:=k) (cs:=qfn cs a.tk) (rest:=rest) ho hwt hb' hr;have hA':AR B ρ σ w ({a with df:=d::a.df}.put o.dst undef) ({ac with defers:={target:= .fn (.func g) ds,args:=bs++args'}::ac.defers}.put o.dst undef):=
        AR.put (a:={a with df:=d::a.df}) (ac:={ac with defers:={target:= .fn (.func g) ds,args:=bs++args'}::ac.defers}) ⟨hA.sz,hA.tm, .cons _ _ _ _ ⟨g,fs,cs',bs,ds,args',hd1,hd2,hd3,hd4,rfl⟩ hA.df⟩ o.dst (.junk _)
       obtain⟨e,a₁,σ₁,ρ₁,w₁,ac₁,hq,hR₁,hA₁,hf₁,ht₁,harr⟩:=h B ρ w _ b k cs hB hR hA' hF (by rw [CAct.tk_put];exact ht)
       rw [CAct.tk_put] at harr;exact⟨e,a₁,σ₁,ρ₁,w₁,ac₁,hq,hR₁,hA₁,hf₁,ht₁, .of_steps (.one hst) harr⟩
     |recover=>
      rw [hc] at h;simp only at h;cases hrn:x.rnd with
      |some l=>rw [hrn] at h;exact h.elim
      |none=>
       rw [hrn] at h;simp only [Option.isSome_none,Bool.false_eq_true,if_false] at h;have hr:=qs0 (ev':=ac.eval) hc w;have hb':b.roundOf=none:=by
        have:=hF.rnd;rw [hrn] at this;cases hbb:b.roundOf with
        |none=>rfl
        |some r=>rw [hbb] at this;exact this.elim
       have hdk:=hF.dk
       --nothing to recover
       have nil:(b.kind= .normal∨(b.kind= .deferred∧∃c r,qfn cs a.tk=c::r∧(c.mode= .returning∨∃u l,c.mode= .panicking ({v:=u,recovered:=true}::l))))→
         qf4 E.P x (a.put o.dst .nilIface) σ (λk=> .inRegion ops rest::k) Q→
         ∃(e:CEx) (a':CAct) (σ':CSt) (ρ':Rho) (w':World) (ac':Act),Q (.code e a') σ'∧R E.P ρ' σ' w'∧AR B ρ' σ' w' a' ac'∧Frm ρ σ w ρ' σ' w'∧(x.dk=none→a'.tk=false)∧
          qw9 E.P (lone (atR b ac (.inRegion ops (i::rest)::k)) (qfn cs a.tk) w) b k (qfn cs a'.tk) ρ' ac' w' e:=by
        intro hk hs
        have hst:=qia (P:=E.P) (b:=b) (a:=ac) (k:=k) (cs:=qfn cs a.tk) (rest:=rest) ho hwt hb' hr (v:= .nilIface) (cs':=qfn cs a.tk) (by
         rcases hk with hk|⟨hk,c,r,h1,h2⟩
         ·exact .inl ⟨hk,rfl,rfl⟩
         ·exact .inr ⟨hk,c,r,h1, .inl ⟨rfl,rfl,h2⟩⟩)
        obtain⟨e,a₁,σ₁,ρ₁,w₁,ac₁,hq,hR₁,hA₁,hf₁,ht₁,harr⟩:=hs B ρ w (ac.put o.dst .nilIface) b k cs hB hR (hA.put o.dst (.plain _ rfl)) hF (by rw [CAct.tk_put];exact ht)
        rw [CAct.tk_put] at harr;exact⟨e,a₁,σ₁,ρ₁,w₁,ac₁,hq,hR₁,hA₁,hf₁,ht₁, .of_steps (.one hst) harr⟩
       cases hxd:x.dk with
       |none=>
        rw [hxd] at h hdk;rw [hxd] at nil;exact nil (.inl hdk) (by cases hat:a.tk<;>(rw [hat] at h;exact h))
       |some m=>
        rw [hxd] at h hdk nil;cases m with
        |none=>
         obtain⟨hk,c,r,rfl,hm⟩:=hdk;refine nil (.inr ⟨hk, ?_⟩) (by cases hat:a.tk<;>(rw [hat] at h;exact h))
         cases a.tk with
         |false=>exact⟨c,r,rfl, .inl hm⟩
         |true=>exact⟨qgv c,r,rfl, .inl (by simp [qgv,hm])⟩
        |some v=>
         obtain⟨hk,c,r,v',rfl,hm,hv⟩:=hdk;cases hat:a.tk with
         |true=>
          rw [hat] at h nil;refine nil (.inr ⟨hk,qgv c,r,rfl, .inr ⟨v', [],by simp [qgv,hm]⟩⟩) h
         |false=>
          rw [hat] at h;simp only at h;have hst:=qia (P:=E.P) (b:=b) (a:=ac) (k:=k) (cs:=c::r) (rest:=rest) ho hwt hb' hr (v:=v') (cs':=qfn (c::r) true) (.inr ⟨hk,c,r,rfl, .inr ⟨[],hm,by simp [qfn,qgv,hm]⟩⟩)
          have hA':AR B ρ σ w ({a with tk:=true}.put o.dst v) (ac.put o.dst v'):=AR.put (a:={a with tk:=true}) ⟨hA.sz,hA.tm,hA.df⟩ o.dst hv
          obtain⟨e,a₁,σ₁,ρ₁,w₁,ac₁,hq,hR₁,hA₁,hf₁,ht₁,harr⟩:=h B ρ w (ac.put o.dst v') b k (c::r) hB hR hA' hF (by rw [hxd];intro e;cases e)
          rw [CAct.tk_put] at harr;exact⟨e,a₁,σ₁,ρ₁,w₁,ac₁,hq,hR₁,hA₁,hf₁,(by intro e;cases e), .of_steps (.one hst) harr⟩
     |fail=>rw [hc] at h;exact h.elim
end
end Go.Sm
