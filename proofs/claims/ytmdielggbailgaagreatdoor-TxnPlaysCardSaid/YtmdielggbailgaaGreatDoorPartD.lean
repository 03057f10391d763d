/- Part D of the proof. -/
import Derived.Test.YtmdielggbailgaaGreatDoorPartC
set_option linter.unusedVariables false
set_option linter.unusedSimpArgs false
namespace Go.Sm
open Go Go.Proofs
set_option maxRecDepth 100000
set_option maxHeartbeats 4000000
attribute [local simp] qat
theorem clone_31 (l:List Sn) (v:Value) (σ:CSt) (hsl:Sl σ 97 2 encS v l) (hbig:l.length<2^40) (Q:Out→CSt→Prop)
  (h:∀(v':Value) (σ':CSt),Own σ.n σ' 97 encS v' l→Grow σ σ'→Q (.ret v' false) σ'):W E1 (.fn 188 #[v] none) σ Q:=by
 rw [qap (fn:=Tryz.f188) Tryz.func188 rfl rfl rfl];have h0:(0:Nat)≠qa1:=by simp [qa1]
 rcases hsl with⟨rfl,rfl⟩|⟨i,off,cap,row,ro,rfl,hg,hin,hrow,hlen,hcap⟩
 ·have:=h _ σ Own.nil (Grow.refl σ);simpa [qa0] using this
 by_cases hl:l.length=0
 ·have hnil:l= []:=List.eq_nil_of_length_eq_zero hl;subst hnil;have:=h (.slice (some ⟨σ.n,0,none⟩) 0 0) (σ.alloc (.cells [] 97 false)) (.inr ⟨σ.n,0,rfl,Nat.le_refl _,by simp,by simp, .inr ⟨rfl,rfl⟩⟩) ((Grow.refl σ).alloc _)
  have hin':¬i=σ.n:=by omega
  have hoff:off≤row.length:=by simp at hlen;omega
  simpa [qa0,qat,qhk,qau,hg,h0,hin',hoff] using this
 ·have hn0:¬l= []:=by rintro rfl;simp at hl
  have hb:l.length*16≤140737488355328:=by omega
  have hrl:((l.flatMap encS).length:Nat)=l.length*2:=qa5 encS (λ_=>rfl) l
  have hck:qc9 (l.flatMap encS)=true:=qdz (λ_=>rfl) l
  have:=h (.slice (some ⟨σ.n+1,0,none⟩) l.length qa1) ((σ.alloc (.cells [] 97 false)).alloc (.cells (l.flatMap encS) 97 false))
   (.inr ⟨σ.n+1,qa1,rfl,by omega,by simp,by simp, .inl rfl⟩) (((Grow.refl σ).alloc _).alloc _)
  have hin':¬i=σ.n:=by omega
  simpa [qa0,qat,qhk,qau,hg,h0,hin',hlen,hrow,hrl,hl,hb,hck,hn0,-List.length_flatMap] using this
theorem clone_33 (l:List Lk) (v:Value) (σ:CSt) (hsl:Sl σ 99 5 qag v l) (hbig:l.length<2^40) (Q:Out→CSt→Prop)
  (h:∀(v':Value) (σ':CSt),Own σ.n σ' 99 qag v' l→Grow σ σ'→Q (.ret v' false) σ'):W E1 (.fn 52 #[v] none) σ Q:=by
 rw [qap (fn:=Tryz.f52) Tryz.func52 rfl rfl rfl];have h0:(0:Nat)≠qa1:=by simp [qa1]
 rcases hsl with⟨rfl,rfl⟩|⟨i,off,cap,row,ro,rfl,hg,hin,hrow,hlen,hcap⟩
 ·have:=h _ σ Own.nil (Grow.refl σ);simpa [qa0] using this
 by_cases hl:l.length=0
 ·have hnil:l= []:=List.eq_nil_of_length_eq_zero hl;subst hnil;have:=h (.slice (some ⟨σ.n,0,none⟩) 0 0) (σ.alloc (.cells [] 99 false)) (.inr ⟨σ.n,0,rfl,Nat.le_refl _,by simp,by simp, .inr ⟨rfl,rfl⟩⟩) ((Grow.refl σ).alloc _)
  have hin':¬i=σ.n:=by omega
  have hoff:off≤row.length:=by simp at hlen;omega
  simpa [qa0,qat,qhk,qau,hg,h0,hin',hoff] using this
 ·have hn0:¬l= []:=by rintro rfl;simp at hl
  have hb:l.length*56≤140737488355328:=by omega
  have hrl:((l.flatMap qag).length:Nat)=l.length*5:=qa5 qag (λ_=>rfl) l
  have hck:qc9 (l.flatMap qag)=true:=qdz (λ_=>rfl) l
  have:=h (.slice (some ⟨σ.n+1,0,none⟩) l.length qa1) ((σ.alloc (.cells [] 99 false)).alloc (.cells (l.flatMap qag) 99 false))
   (.inr ⟨σ.n+1,qa1,rfl,by omega,by simp,by simp, .inl rfl⟩) (((Grow.refl σ).alloc _).alloc _)
  have hin':¬i=σ.n:=by omega
  simpa [qa0,qat,qhk,qau,hg,h0,hin',hlen,hrow,hrl,hl,hb,hck,hn0,-List.length_flatMap] using this
theorem clone_38 (l:List Sn) (v:Value) (σ:CSt) (hsl:Sl σ 97 2 encS v l) (hbig:l.length<2^40) (Q:Out→CSt→Prop)
  (h:∀(v':Value) (σ':CSt),Own σ.n σ' 97 encS v' l→Grow σ σ'→Q (.ret v' false) σ'):W E1 (.fn 192 #[v] none) σ Q:=by
 rw [qap (fn:=Tryz.f192) Tryz.func192 rfl rfl rfl];have h0:(0:Nat)≠qa1:=by simp [qa1]
 rcases hsl with⟨rfl,rfl⟩|⟨i,off,cap,row,ro,rfl,hg,hin,hrow,hlen,hcap⟩
 ·have:=h _ σ Own.nil (Grow.refl σ);simpa [qa0] using this
 by_cases hl:l.length=0
 ·have hnil:l= []:=List.eq_nil_of_length_eq_zero hl;subst hnil;have:=h (.slice (some ⟨σ.n,0,none⟩) 0 0) (σ.alloc (.cells [] 97 false)) (.inr ⟨σ.n,0,rfl,Nat.le_refl _,by simp,by simp, .inr ⟨rfl,rfl⟩⟩) ((Grow.refl σ).alloc _)
  have hin':¬i=σ.n:=by omega
  have hoff:off≤row.length:=by simp at hlen;omega
  simpa [qa0,qat,qhk,qau,hg,h0,hin',hoff] using this
 ·have hn0:¬l= []:=by rintro rfl;simp at hl
  have hb:l.length*16≤140737488355328:=by omega
  have hrl:((l.flatMap encS).length:Nat)=l.length*2:=qa5 encS (λ_=>rfl) l
  have hck:qc9 (l.flatMap encS)=true:=qdz (λ_=>rfl) l
  have:=h (.slice (some ⟨σ.n+1,0,none⟩) l.length qa1) ((σ.alloc (.cells [] 97 false)).alloc (.cells (l.flatMap encS) 97 false))
   (.inr ⟨σ.n+1,qa1,rfl,by omega,by simp,by simp, .inl rfl⟩) (((Grow.refl σ).alloc _).alloc _)
  have hin':¬i=σ.n:=by omega
  simpa [qa0,qat,qhk,qau,hg,h0,hin',hlen,hrow,hrl,hl,hb,hck,hn0,-List.length_flatMap] using this
end Go.Sm
namespace Go.Sm
open Go Go.Proofs
structure MC where
 sp:Value
 ck:Int
 la:Int
 ml:Nat
 mt:Nat
variable {m0:MC}
set_option maxRecDepth 100000
set_option maxHeartbeats 4000000
def Bt (i:Nat) (v:Value) (s s':CSt):Prop:=s.n≤s'.n∧∀j,j<s.n→j≠i→qb1 v≠some j→s'.get j=s.get j
theorem Grow.bt {i:Nat} {v:Value} {s s':CSt} (h:Grow s s'):Bt i v s s':=⟨h.n,λj hj _ _=>h.old j hj⟩
theorem Bt.trans {i:Nat} {v:Value} {s0 s1 s2:CSt} (h:Bt i v s0 s1) (h':Bt i v s1 s2):Bt i v s0 s2:=⟨Nat.le_trans h.1 h'.1,λj hj h1 h2=>by rw [h'.2 j (Nat.lt_of_lt_of_le hj h.1) h1 h2,h.2 j hj h1 h2]⟩
theorem qd3.bt {i:Nat} {v:Value} {s s':CSt} (h:qd3 v s s'):Bt i v s s':=⟨h.1,λj hj _ h2=>h.2 j hj h2⟩
theorem Bt.putI {i:Nat} {v:Value} {s0 s1:CSt} (h:Bt i v s0 s1) (o:CObj):Bt i v s0 (s1.put i o):=⟨h.1,λj hj h1 h2=>by rw [CSt.get_put,if_neg h1];exact h.2 j hj h1 h2⟩
def Tb (m0:MC) (b i:Nat) (v:Value) (σ:CSt) (L:List Lk):Prop:=σ.get i=some (.cells [m0.sp,v, .int .u64 m0.ck, .int .i64 m0.la, .map (some m0.ml), .map (some m0.mt)] 85 false)∧b≤i∧i<σ.n∧qbj b σ 99 qag v L
theorem qbj.ob {α:Type} {b:Nat} {σ:CSt} {e:TypeId} {enc:α→List Value} {v:Value} {l:List α} (h:qbj b σ e enc v l) {j:Nat} (hj:qb1 v=some j):b≤j∧j<σ.n∧∃row,σ.get j=some (.cells row e false):=by
 rcases h with⟨rfl,_⟩|⟨i,cap,zs,rfl,hb,hi,hg,_⟩
 ·cases hj
 ·cases hj;exact⟨hb,hi,_,hg⟩
theorem Tb.grow {b i:Nat} {v:Value} {σ σ':CSt} {L:List Lk} (h:Tb m0 b i v σ L) (g:Grow σ σ'):Tb m0 b i v σ' L:=⟨g.get h.1 h.2.2.1,h.2.1,Nat.lt_of_lt_of_le h.2.2.1 g.n,h.2.2.2.grow g⟩
theorem Tb.ne {b i:Nat} {v:Value} {σ:CSt} {L:List Lk} (h:Tb m0 b i v σ L):qb1 v≠some i:=λe=>by
 obtain⟨_,_,row,hr⟩:=h.2.2.2.ob e;rw [h.1] at hr;cases hr
theorem qbj.putX {α:Type} {b i:Nat} {σ:CSt} {e e':TypeId} {enc:α→List Value} {v:Value} {l:List α} {row:List Value} {ro:Bool} (h:qbj b σ e enc v l) (hi:σ.get i=some (.cells row e' ro)) (he:e'≠e) (o:CObj):qbj b (σ.put i o) e enc v l:=by
 rcases h with h|⟨j,cap,zs,h1,hb,hj,hg,h3⟩
 ·exact .inl h
 ·refine .inr ⟨j,cap,zs,h1,hb,hj, ?_,h3⟩;rw [CSt.get_put,if_neg]
  ·exact hg
  ·rintro rfl;rw [hg] at hi;injection hi with e1
   injection e1 with e2 e3 e4
   exact he e3.symm
def addK (L:List Lk) (k:Lk):List Lk:=if qqs k then L++ [k] else L
theorem zbb (b i:Nat) (v:Value) (L:List Lk) (k:Lk) (σ:CSt) (hb:b≤σ.n) (ht:Tb m0 b i v σ L) (hL:L.length<2^36) (Q:Out→CSt→Prop)
  (h:∀(v':Value) (σ':CSt),Tb m0 b i v' σ' (addK L k)→(qb1 v'=qb1 v∨∃j,qb1 v'=some j∧σ.n≤j)→Bt i v σ σ'→Q (.ret (.tuple #[]) false) σ'):W E1 (.fn 198 #[.pointer (some ⟨i,1,none⟩), .agg (qag k).toArray] none) σ Q:=by
 have ht0:=ht;obtain⟨hg,hbi,hin,hown⟩:=ht;rw [qap (fn:=Tryz.f198) Tryz.func198 rfl rfl rfl];have hk:(klt k.frm k.til||k.frm.toList==k.til.toList)= !klt k.til k.frm:=qi5 _ _
 have g0:Grow σ (σ.alloc (.cells (qag k) 99 false)):=(Grow.refl σ).alloc _;cases hk2:klt k.til k.frm with
 |true=>
  rw [hk2] at hk;have e:addK L k=L:=by simp [addK,qqs,hk2]
  have:=h v _ (by rw [e];exact ht0.grow g0) (.inl rfl) g0.bt
  simpa [qa0,qa2,qa4,qag,hk] using this
 |false=>
  rw [hk2] at hk;have hc0:(σ.alloc (.cells (qag k) 99 false)).get σ.n=some (.cells (qag k) 99 false):=qms rfl;have hn0:(σ.alloc (.cells (qag k) 99 false)).n=σ.n+1:=by simp
  have he:=qds k.sp (σ.alloc (.cells (qag k) 99 false));simp only [encS,qag] at he;simp only [qag] at g0 hc0 hn0;simp [qa0,qa2,qa4,qag,hk];refine he _ fun σ1 g1=> ?_
  have hc1:=g1.get hc0 (by omega)
  have g01:=g0.trans g1;have hg1:=g01.get hg hin;have hown1:=hown.grow g01;have gn1:=g1.n;by_cases e:k.sp.lo≤k.sp.hi
  ·have e2:addK L k=L++ [k]:=by simp [addK,qqs,hk2,full,e]
   have ef:full k.sp=true:=by simp [full,e]
   simp [qa0,qa2,qa4,hk,ef];have happ:∃v9 s9,qas Tryz.prog (σ1.alloc (.cells (qag k) 99 false)) #[78,78] v (.slice (some ⟨σ1.n,0,none⟩) 1 1)=some (v9,s9)∧qbj b s9 99 qag v9 (L++ [k])∧qd3 v (σ1.alloc (.cells (qag k) 99 false)) s9∧(qb1 v9=qb1 v∨qb1 v9=some (σ1.n+1)):=by
    have hga:Grow σ1 (σ1.alloc (.cells (qag k) 99 false)):=(Grow.refl σ1).alloc _;have:=qkp (P:=Tryz.prog) (ts:= #[78,78]) (e:=99) (sz:=5) (enc:=qag) (l:=L) (m:= [k]) (b:=b) ef78 (by simp) qe1 cokK rfl (by decide) (by decide) rfl (σ:=σ1.alloc (.cells (qag k) 99 false))
     (hown1.grow hga) (by simp;omega) (Sl.all (l:= [k]) (i:=σ1.n) (cap:=1) (ro:=false) qe1 (by simp) (by simp) (.inr ⟨by simp,by simp [qa1]⟩)) (by show(_+1)*_≤_;simp;omega) (by omega)
    simpa using this
   obtain⟨v9,s9,a1,a2,a3,a4⟩:=happ;have hvo:∀j,qb1 v=some j→j<σ.n∧j≠i:=λj hj=>⟨(hown.ob hj).2.1,λe=>ht0.ne (by rw [hj,e])⟩
   have hni:¬i=σ1.n:=by omega
   have h9i:s9.get i=some (.cells [m0.sp,v, .int .u64 m0.ck, .int .i64 m0.la, .map (some m0.ml), .map (some m0.mt)] 85 false):=by
    rw [a3.2 i (by simp;omega) ht0.ne,CSt.get_alloc,if_neg hni];exact hg1
   have h9n:s9.get σ.n=some (.cells (qag k) 99 false):=by
    rw [a3.2 σ.n (by simp;omega) (λe=>by have:=hvo _ e;omega),CSt.get_alloc,if_neg (by omega)];exact hc1
   have h9:Bt i v σ s9:=(g01.bt.trans ((Grow.refl σ1).alloc (.cells (qag k) 99 false)).bt).trans a3.bt;have hn9:σ.n≤s9.n:=h9.1
   have hfin:=h v9 (s9.put i (.cells [m0.sp,v9, .int .u64 m0.ck, .int .i64 m0.la, .map (some m0.ml), .map (some m0.mt)] 85 false)) (by
    rw [e2];refine⟨by simp,hbi,by simp;omega, ?_⟩
    exact a2.putX h9i (by decide) _) (by
    rcases a4 with a4|a4
    ·exact .inl a4
    ·exact .inr ⟨_,a4,by omega⟩) (h9.putI _)
   obtain⟨p9,c9,rfl⟩:=(a2.sl (sz:=5) qe1).form;simp only [qag] at a1 a3 h9n;refine qcv (l:= [0,1,2,3,4,5,6,7,8,9,10]) (b:= #[0,0,2,6,14,0,32,126,255,511,1023]) (by kernel_rfl) (by kernel_rfl) (by kernel_rfl) ?_
   have hni2:¬σ.n=i:=by omega
   have hb4:Nat.testBit 1023 4=true:=by decide
   simpa [qa7,qal,qab,qb9,qa3,qa9,Nat.add_assoc,hc1,hg1,a1,hni,hni2,hb4,h9i,h9n] using hfin
  ·have e2:addK L k=L:=by simp [addK,qqs,hk2,full,e]
   have ef:full k.sp=false:=by simp [full,e]
   have:=h v _ (by rw [e2];exact ht0.grow g01) (.inl rfl) g01.bt
   simpa [qa0,qa2,qa4,hk,ef] using this
theorem qzs (b i:Nat) (v:Value) (L:List Lk) (σ:CSt) (ht:Tb m0 b i v σ L) (hL:L.length<2^36) (Q:Out→CSt→Prop)
  (h:∀(v':Value) (σ':CSt),Own σ.n σ' 99 qag v' L→Grow σ σ'→Q (.ret v' false) σ'):W E1 (.fn 43 #[.pointer (some ⟨i,1,none⟩)] none) σ Q:=by
 obtain⟨hg,hbi,hin,hown⟩:=ht;rw [qap (fn:=Tryz.f43) Tryz.func43 rfl rfl rfl];obtain⟨pv,cv,rfl⟩:=(hown.sl (sz:=5) qe1).form;simp [qa0,hg];refine clone_33 L _ σ (hown.sl qe1) (by omega) _ λv1 σ1 ho1 g1=> ?_
 simpa [qa0] using h v1 σ1 ho1 g1
def qss (L:List Lk) (o:Int) (k:ByteArray):List Sn:=(L.filter λx=> !decide (x.owner=o)&&(!klt k x.frm&& !klt x.til k)).map Lk.sp
theorem zap (L:List Lk) (x:Lk) (o:Int) (k:ByteArray):qss (L++ [x]) o k=if(!decide (x.owner=o)&&(!klt k x.frm&& !klt x.til k))=true then qss L o k++ [x.sp] else qss L o k:=by
 unfold qss;rw [List.filter_append,List.map_append,List.filter_cons,List.filter_nil];split<;>simp
theorem qtm (L:List Lk) (o:Int) (k:ByteArray):(qss L o k).length≤L.length:=by
 unfold qss;rw [List.length_map];exact List.length_filter_le _ _
end Go.Sm
namespace Go.Sm
open Go Go.Proofs
variable {m0:MC}
set_option maxRecDepth 100000
set_option maxHeartbeats 4000000
theorem pred56 (x:Lk) (o:Int) (c:Nat) (s:CSt) (hc:s.get c=some (.cells [.int .i64 o] 3 false)) (hcn:c<s.n) (Q:Out→CSt→Prop) (h:∀s',Grow s s'→Q (.ret (.bool (decide (x.owner=o))) false) s'):W E1 (.fn 221 #[.agg (qag x).toArray, .pointer (some ⟨c,0,none⟩)] none) s Q:=by
 rw [qap (fn:=Tryz.f221) Tryz.func221 rfl rfl rfl];have hg:=h _ ((Grow.refl s).alloc (.cells (qag x) 99 false));have hcn':¬c=s.n:=by omega
 simp only [qag] at hg;by_cases e:x.owner=o
 ·simpa [qa0,qag,e,hc,hcn'] using hg
 ·simpa [qa0,qag,e,hc,hcn'] using hg
theorem pred79 (x:Lk) (s:CSt) (Q:Out→CSt→Prop) (h:∀s',Grow s s'→Q (.ret (.bool (!full x.sp)) false) s'):W E1 (.fn 243 #[.agg (qag x).toArray] none) s Q:=by
 rw [qap (fn:=Tryz.f243) Tryz.func243 rfl rfl rfl];have g0:Grow s (s.alloc (.cells (qag x) 99 false)):=(Grow.refl s).alloc _;have he:=qds x.sp (s.alloc (.cells (qag x) 99 false));simp only [encS,qag] at he;simp [qa0,qag];refine he _ λs1 g1=> ?_
 simpa [qa0] using h s1 (g0.trans g1)
theorem qp4 (b i:Nat) (v:Value) (L:List Lk) (o:Int) (σ:CSt) (ht:Tb m0 b i v σ L) (hL:L.length<2^36) (Q:Out→CSt→Prop)
  (h:∀(v':Value) (σ':CSt),Tb m0 b i v' σ' (L.filter λx=> !decide (x.owner=o))→qb1 v'=qb1 v→Bt i v σ σ'→Q (.ret (.tuple #[]) false) σ'):W E1 (.fn 155 #[.pointer (some ⟨i,1,none⟩), .int .i64 o] none) σ Q:=by
 have ht0:=ht;obtain⟨hg,hbi,hin,hown⟩:=ht;rw [qap (fn:=Tryz.f155) Tryz.func155 rfl rfl rfl];obtain⟨pv,cv,rfl⟩:=(hown.sl (sz:=5) qe1).form;have g0:Grow σ (σ.alloc (.cells [.int .i64 o] 3 false)):=(Grow.refl σ).alloc _;have hc0:(σ.alloc (.cells [.int .i64 o] 3 false)).get σ.n=some (.cells [.int .i64 o] 3 false):=qms rfl;have hn0:(σ.alloc (.cells [.int .i64 o] 3 false)).n=σ.n+1:=by simp
 have hg0:=g0.get hg hin;have hni:¬i=σ.n:=by omega
 simp [qa0,hg,hni];generalize σ.alloc (.cells [.int .i64 o] 3 false)=s1 at g0 hc0 hn0 hg0⊢;refine qhx 221 #[.pointer (some ⟨σ.n,0,none⟩)] (λargs s=>qef rfl) (λx=>decide (x.owner=o)) (λs=>s.get σ.n=some (.cells [.int .i64 o] 3 false)∧σ.n<s.n) b L _ s1 (λs s' hs hb=>⟨?_,Nat.lt_of_lt_of_le hs.2 hb.1⟩) (hown.grow g0) ⟨hc0,by omega⟩ (λx hx s Q hs hq=> ?_) (by omega) _ λv2 s2 ho2 hob g2=> ?_
 ·rw [hb.2 σ.n hs.2 (λe=>by have:=(hown.ob e).2.1;omega)]
  exact hs.1
 ·exact pred56 x o σ.n s hs.1 hs.2 Q hq
 obtain⟨p2,c2,rfl⟩:=(ho2.sl (sz:=5) qe1).form;have h2i:s2.get i=some (.cells [m0.sp, .slice pv L.length cv, .int .u64 m0.ck, .int .i64 m0.la, .map (some m0.ml), .map (some m0.mt)] 85 false):=by rw [g2.2 i (by omega) ht0.ne];exact hg0
 have hb2:=(g0.bt (i:=i) (v:= .slice pv L.length cv)).trans g2.bt;simp [qa0,h2i];exact h _ _ ⟨by simp,hbi,by have:=hb2.1;simp;omega,ho2.putX h2i (by decide) _⟩ hob (hb2.putI _)
theorem qmv (b i:Nat) (v:Value) (L:List Lk) (σ:CSt) (ht:Tb m0 b i v σ L) (hL:L.length<2^36) (Q:Out→CSt→Prop)
  (h:∀(v':Value) (σ':CSt),Tb m0 b i v' σ' (L.filter λx=>full x.sp)→qb1 v'=qb1 v→Bt i v σ σ'→Q (.ret (.tuple #[]) false) σ'):W E1 (.fn 196 #[.pointer (some ⟨i,1,none⟩)] none) σ Q:=by
 have ht0:=ht;obtain⟨hg,hbi,hin,hown⟩:=ht;rw [qap (fn:=Tryz.f196) Tryz.func196 rfl rfl rfl];obtain⟨pv,cv,rfl⟩:=(hown.sl (sz:=5) qe1).form;simp [qa0,hg];refine qhx 243 #[] (λargs s=>qef rfl) (λx=> !full x.sp) (λs=>True) b L _ σ (λs s' hs hb=>trivial) hown trivial (λx hx s Q hs hq=> ?_) (by omega) _ λv2 s2 ho2 hob g2=> ?_
 ·simp only [Array.append_empty];exact pred79 x s Q hq
 simp only [Bool.not_not] at ho2;obtain⟨p2,c2,rfl⟩:=(ho2.sl (sz:=5) qe1).form;have h2i:s2.get i=some (.cells [m0.sp, .slice pv L.length cv, .int .u64 m0.ck, .int .i64 m0.la, .map (some m0.ml), .map (some m0.mt)] 85 false):=by rw [g2.2 i (by omega) ht0.ne];exact hg
 have hb2:Bt i (.slice pv L.length cv) σ s2:=g2.bt;simp [qa0,h2i];exact h _ _ ⟨by simp,hbi,by have:=hb2.1;simp;omega,ho2.putX h2i (by decide) _⟩ hob (hb2.putI _)
end Go.Sm
namespace Go.Sm
open Go Go.Proofs
variable {m0:MC}
set_option maxRecDepth 100000
set_option maxHeartbeats 4000000
theorem zbk (d:List Lk) (j:Nat) (h:j<d.length) (zs:List Value):∃A B:List Value,A.length=j*5∧d.flatMap qag++zs=A++(qag d[j]++B)∧∀y,(d.set j y).flatMap qag++zs=A++(qag y++B):=by
 refine⟨(d.take j).flatMap qag,(d.drop (j+1)).flatMap qag++zs, ?_, ?_,λy=> ?_⟩
 ·rw [qa5 qag qe1,List.length_take,Nat.min_eq_left (Nat.le_of_lt h)]
 ·have e:d=d.take j++d[j]::d.drop (j+1):=by rw [←List.drop_eq_getElem_cons h,List.take_append_drop]
  have e2:=congrArg (List.flatMap qag) e;rw [List.flatMap_append,List.flatMap_cons] at e2;rw [e2];simp only [List.append_assoc]
 ·rw [List.set_eq_take_append_cons_drop,if_pos h,List.flatMap_append,List.flatMap_cons];simp only [List.append_assoc]
theorem zai (d:List Lk) (j:Nat) (h:j<d.length) (zs:List Value) (x:Int):(d.flatMap qag++zs).take (j*5)++ .int .i64 x::(d.flatMap qag++zs).drop (j*5+1)=(d.set j ⟨x,d[j].frm,d[j].til,d[j].sp⟩).flatMap qag++zs:=by
 obtain⟨A,B,hA,h1,h2⟩:=zbk d j h zs;rw [h1,h2,←hA,List.take_left,List.drop_append];simp [qag]
theorem qvc (d:List Lk) (j:Nat) (h:j<d.length) (zs:List Value) (s:Sn):(d.flatMap qag++zs).take (j*5+3)++(encS s++(d.flatMap qag++zs).drop (j*5+3+2))=(d.set j ⟨d[j].owner,d[j].frm,d[j].til,s⟩).flatMap qag++zs:=by
 obtain⟨A,B,hA,h1,h2⟩:=zbk d j h zs;rw [h1,h2,←hA,List.take_append,List.drop_append,List.take_of_length_le (by omega),List.drop_of_length_le (by omega)]
 simp [qag,encS,show A.length+3-A.length=3 by omega,show A.length+3+2-A.length=5 by omega]
def mid (f:Lk→Lk) (L:List Lk) (j:Nat):List Lk:=(L.take j).map f++L.drop j
theorem qey (f:Lk→Lk) (L:List Lk) (j:Nat):(mid f L j).length=L.length:=by
 unfold mid;rw [List.length_append,List.length_map,←List.length_append,List.take_append_drop]
theorem qln (f:Lk→Lk) (L:List Lk) (j:Nat) (h:j<L.length):(mid f L j)[j]'(by rw [qey];exact h)=L[j]:=by
 unfold mid;rw [List.getElem_append_right (by simp;omega)]
 simp [Nat.min_eq_left (Nat.le_of_lt h)]
theorem qu4 (f:Lk→Lk) (L:List Lk) (j:Nat) (h:j<L.length):(mid f L j).set j (f L[j])=mid f L (j+1):=by
 unfold mid;have hl:((L.take j).map f).length=j:=by simp [Nat.min_eq_left (Nat.le_of_lt h)]
 rw [List.set_append_right _ _ (by omega),hl,Nat.sub_self,List.take_succ_eq_append_getElem h,List.map_append,List.append_assoc]
 congr 1
 rw [List.drop_eq_getElem_cons h]
 rfl
theorem qvn (f:Lk→Lk) (L:List Lk) (j:Nat) (h:j<L.length) (e:f L[j]=L[j]):mid f L (j+1)=mid f L j:=by
 rw [←qu4 f L j h,e];have hm:j<(mid f L j).length:=by rw [qey];exact h
 have:=List.set_getElem_self hm;rw [qln f L j h] at this;exact this
theorem zal (f:Lk→Lk) (L:List Lk):mid f L L.length=L.map f:=by
 unfold mid;rw [List.take_length,List.drop_length,List.append_nil]
def qkl (o u:Int) (x:Lk):Lk:=if x.owner=o then⟨0,x.frm,x.til,qc7 x.sp (u+1)⟩ else x
def qja (u:Int) (x:Lk):Lk:=if x.owner=0 then⟨x.owner,x.frm,x.til,qbi x.sp u⟩ else x
theorem Tb.gnone {b i:Nat} {v:Value} {s s':CSt} {L:List Lk} (h:Tb m0 b i v s L) (hn:gnone s) (hz2:0<s.n) (k:Bt i v s s'):gnone s':=by
 unfold Sm.gnone at*;rw [k.2 0 hz2 (λe=>by subst e;have:=Option.some.inj (hn.symm.trans h.1);injection this with _ e _;cases e) (λe=>by obtain⟨_,_,row,h1⟩:=h.2.2.2.ob e;rw [hn] at h1;cases h1)]
 exact hn
theorem qqe (b i:Nat) (v:Value) (L:List Lk) (hok:∀x∈L,x.sp.ok) (o u:Int) (hu0:0≤u) (hu:u<2^41) (σ:CSt) (hn:gnone σ) (ht:Tb m0 b i v σ L) (hL:L.length<2^36) (Q:Out→CSt→Prop)
  (h:∀(v':Value) (σ':CSt),Tb m0 b i v' σ' ((L.map (qkl o u)).filter λx=>full x.sp)→qb1 v'=qb1 v→Bt i v σ σ'→Q (.ret (.tuple #[]) false) σ'):W E1 (.fn 113 #[.pointer (some ⟨i,1,none⟩), .int .i64 o, .int .u64 u] none) σ Q:=by
 have ht0:=ht;obtain⟨hg,hbi,hin,hown⟩:=ht;rw [qap (fn:=Tryz.f113) Tryz.func113 rfl rfl rfl];obtain⟨pv,cv,rfl⟩:=(hown.sl (sz:=5) qe1).form;simp [qa0,hg];refine qak (λn a s=>∃tm j,a=⟨tm,44, [],false⟩∧tm.get 0=some (.pointer (some ⟨i,1,none⟩))∧tm.get 1=some (.int .i64 o)∧tm.get 2=some (.int .u64 u)∧tm.get 11=some (.slice pv L.length cv)∧tm.get 12=some (.int .i64 L.length)∧tm.get 13=some (.int .i64 (j:Nat))∧j≤L.length∧n=L.length-j∧Tb m0 b i (.slice pv L.length cv) s (mid (qkl o u) L j)∧Bt i (.slice pv L.length cv) σ s)
  (λout s=>∃tm,out= .code (.exit 0) ⟨tm,44, [],false⟩∧tm.get 0=some (.pointer (some ⟨i,1,none⟩))∧Tb m0 b i (.slice pv L.length cv) s (L.map (qkl o u))∧Bt i (.slice pv L.length cv) σ s) ?_ L.length _ _ ?_ ?_
 ·rintro n a s ⟨tm,j,rfl,e0,e1,e2,e11,e12,e13,hj,hnn,htb,hbt⟩;by_cases hjl:j<L.length
  ·have htb0:=htb;obtain⟨hgi,_,hin2,how2⟩:=htb;rcases how2 with⟨h1,h2⟩|⟨q,cap,zs,h1,hbq,hq,hgq,hzs,hcap⟩
   ·have:=qey (qkl o u) L j;rw [h2] at this;simp at this;omega
   rw [qey] at h1;have hwj:=qb7 j (by omega)
   cases h1;have hml:=qey (qkl o u) L j;have hjm:j<(mid (qkl o u) L j).length:=by omega
   have hld:=qam (enc:=qag) qe1 (rowZ qe1 (mid (qkl o u) L j) zs) j hjm;rw [qln _ _ _ hjl,Nat.zero_add] at hld;have hrl:((mid (qkl o u) L j).flatMap qag++zs).length=L.length*5+zs.length:=by rw [List.length_append,qa5 qag qe1,hml]
   have hle1:j*5+5≤((mid (qkl o u) L j).flatMap qag++zs).length:=by omega
   have hle2:j*5+1≤((mid (qkl o u) L j).flatMap qag++zs).length:=by omega
   have hjl':(j:Int)<L.length:=by omega
   have hqi:q≠i:=λe=>htb0.ne (by rw [←e];rfl)
   have hqi2:¬i=q:=λe=>hqi e.symm
   have hqn:¬q=s.n:=by omega
   have hro:=zai (mid (qkl o u) L j) j hjm zs 0;rw [qln _ _ _ hjl] at hro;obtain⟨d2,hd2⟩:∃d2,d2=(mid (qkl o u) L j).set j ⟨0,L[j].frm,L[j].til,L[j].sp⟩:=⟨_,rfl⟩
   rw [←hd2] at hro;have hd2l:d2.length=L.length:=by rw [hd2,List.length_set,hml]
   have hj2:j<d2.length:=by omega
   have hd2j:d2[j]=⟨0,L[j].frm,L[j].til,L[j].sp⟩:=by simp [hd2]
   have hrs:=qvc d2 j hj2 zs (qc7 L[j].sp (u+1));have hrl2:(d2.flatMap qag++zs).length=L.length*5+zs.length:=by rw [List.length_append,qa5 qag qe1,hd2l]
   have hle3:j*5+3+2≤(d2.flatMap qag++zs).length:=by omega
   have hnow:Tb m0 b i (.slice (some ⟨q,0,none⟩) L.length cv) s (mid (qkl o u) L j):=htb0;have hzs5:=hzs;generalize hrw:(mid (qkl o u) L j).flatMap qag++zs=row at hgq hld hle1 hle2 hro;generalize hrw2:d2.flatMap qag++zs=row2 at hro hrs hle3;have hg5:Grow s ((s.alloc (.cells [.int .i64 0, .string ⟨#[]⟩, .string ⟨#[]⟩, .int .u64 0, .int .u64 0] 99 false)).put s.n (.cells (qag L[j]) 99 false)):=((Grow.refl s).alloc _).put (Nat.le_refl _) _;have hc5:((s.alloc (.cells [.int .i64 0, .string ⟨#[]⟩, .string ⟨#[]⟩, .int .u64 0, .int .u64 0] 99 false)).put s.n (.cells (qag L[j]) 99 false)).get s.n=some (.cells (qag L[j]) 99 false):=by simp
   have hn5:((s.alloc (.cells [.int .i64 0, .string ⟨#[]⟩, .string ⟨#[]⟩, .int .u64 0, .int .u64 0] 99 false)).put s.n (.cells (qag L[j]) 99 false)).n=s.n+1:=by simp
   simp only [qag] at hg5 hc5 hn5;simp [qa0,e0,e1,e2,e11,e12,e13,hjl,hjl',hgq,hld,hle1];simp [qa0,qag,e0,e1,e2,e11,e12,e13,hwj,-qg0];generalize (s.alloc (.cells [.int .i64 0, .string ⟨#[]⟩, .string ⟨#[]⟩, .int .u64 0, .int .u64 0] 99 false)).put s.n (.cells [.int .i64 L[j].owner, .string L[j].frm, .string L[j].til, .int .u64 L[j].sp.lo, .int .u64 L[j].sp.hi] 99 false)=s1 at hg5 hc5 hn5⊢;have hgq1:=hg5.get hgq hq;have hgi1:=hg5.get hgi hin2;by_cases c1:L[j].owner=o
   ·have hfr:qkl o u L[j]=⟨0,L[j].frm,L[j].til,qc7 L[j].sp (u+1)⟩:=by unfold qkl;rw [if_pos c1]
    have hwu:IntKind.u64.wrap (u+1)=u+1:=IntWalk.u64_in _ (by omega)
    have hut:Nat.testBit 1023 4=true:=by decide
    simp [qa0,e0,e1,e2,e11,e12,e13,hjl,hjl',hc5,c1,hgi1,hgq1,hle2,hro];have hb2:Bt i (.slice (some ⟨q,0,none⟩) L.length cv) s (s1.put q (.cells row2 99 false)):=((hg5.butV (v:= .slice (some ⟨q,0,none⟩) L.length cv)).putV rfl _).bt;have hc6:(s1.put q (.cells row2 99 false)).get s.n=some (.cells [.int .i64 L[j].owner, .string L[j].frm, .string L[j].til, .int .u64 L[j].sp.lo, .int .u64 L[j].sp.hi] 99 false):=by rw [CSt.get_put,if_neg (by omega)];exact hc5
    have hgi2:(s1.put q (.cells row2 99 false)).get i=some (.cells [m0.sp, .slice (some ⟨q,0,none⟩) L.length cv, .int .u64 m0.ck, .int .i64 m0.la, .map (some m0.ml), .map (some m0.mt)] 85 false):=by rw [CSt.get_put,if_neg hqi2];exact hgi1
    have hgq2:(s1.put q (.cells row2 99 false)).get q=some (.cells row2 99 false):=by simp
    have hn2:(s1.put q (.cells row2 99 false)).n=s.n+1:=by simp [hn5]
    have hgn:gnone (s1.put q (.cells row2 99 false)):=htb0.gnone (ht0.gnone hn (by omega) hbt) (by omega) hb2
    generalize s1.put q (.cells row2 99 false)=s2 at hb2 hc6 hgi2 hgq2 hn2 hgn⊢;refine qcv (l:= [0,1,2,3,4,5,6,7,8,9,10,11,12]) (b:= #[0,1,3,7,0,0,32,0,128,480,1023,2047,4095]) (by kernel_rfl) (by kernel_rfl) (by kernel_rfl) ?_
    simp [qa7,qal,qab,qb9,qa3,qa9,Nat.add_assoc,e0,e1,e2,e11,e12,e13,hc6,hgi2,hwu];have hbs:=qn1 L[j].sp (hok _ (List.getElem_mem hjl)) (u+1) (by omega) (by omega) s2 hgn (by omega)
    simp only [encS] at hbs;refine hbs _ λs3 g3=> ?_
    have hgi3:=g3.get hgi2 (by omega)
    have hgq3:=g3.get hgq2 (by omega)
    have hc7:=g3.get hc6 (by omega)
    have hqn2:¬s.n=q:=by omega
    have hend:d2.set j ⟨d2[j].owner,d2[j].frm,d2[j].til,qc7 L[j].sp (u+1)⟩=mid (qkl o u) L (j+1):=by
     rw [hd2j,←qu4 (qkl o u) L j hjl,hfr,hd2,List.set_set]
    rw [hend] at hrs;have hrs':row2.take (j*5+3)++ [.int .u64 (qc7 L[j].sp (u+1)).lo, .int .u64 (qc7 L[j].sp (u+1)).hi]++row2.drop (j*5+5)=(mid (qkl o u) L (j+1)).flatMap qag++zs:=by
     rw [←hrs,List.append_assoc];rfl
    have gn3:=g3.n;have hfin:Tb m0 b i (.slice (some ⟨q,0,none⟩) L.length cv) (s3.put q (.cells (row2.take (j*5+3)++ [.int .u64 (qc7 L[j].sp (u+1)).lo, .int .u64 (qc7 L[j].sp (u+1)).hi]++row2.drop (j*5+5)) 99 false)) (mid (qkl o u) L (j+1)):=by
     rw [hrs'];refine⟨by rw [CSt.get_put,if_neg hqi2];exact hgi3,hbi,by simp;omega, .inr ⟨q,cv,zs,by rw [qey],hbq,by simp;omega,by simp,hzs5, ?_⟩⟩
     rcases hcap with hcap|⟨hcap,_⟩
     ·exact .inl hcap
     ·rw [hcap] at hml;simp at hml;omega
    have hfb:Bt i (.slice (some ⟨q,0,none⟩) L.length cv) σ (s3.put q (.cells (row2.take (j*5+3)++ [.int .u64 (qc7 L[j].sp (u+1)).lo, .int .u64 (qc7 L[j].sp (u+1)).hi]++row2.drop (j*5+5)) 99 false)):=
     (hbt.trans hb2).trans ((g3.butV (v:= .slice (some ⟨q,0,none⟩) L.length cv)).putV rfl _).bt
    simp [qa7,qa0,qal,qab,qb9,qa3,qa9,Nat.add_assoc,e0,e1,e2,e11,e12,e13,hc7,hgi3,hgq3,hwj,hle3,hut,hjl,hjl',hqi2,hqn2,-List.append_assoc];exact⟨L.length-(j+1),by omega,j+1,rfl,by omega,rfl,hfin,hfb⟩
   ·have hfr:qkl o u L[j]=L[j]:=by unfold qkl;rw [if_neg c1]
    simp [qa0,e0,e1,e2,e11,e12,e13,hjl,hjl',hc5,c1,hwj];exact⟨L.length-(j+1),by omega,j+1,rfl,by omega,rfl,by rw [qvn _ _ _ hjl hfr];exact hnow.grow hg5,hbt.trans hg5.bt⟩
  ·have hjl':j=L.length:=by omega
   subst hjl';rw [zal] at htb;simp [qa0,e0,e11,e12,e13];exact⟨htb,hbt⟩
 ·refine⟨_,0,rfl, ?_⟩;simp;exact⟨ht0,(Grow.refl _).bt⟩
 ·rintro out s ⟨tm,rfl,e0,htb,hbt⟩;simp [qa0,e0];refine qmv b i _ _ s htb (by simpa using hL) _ λv' s2 htb2 hob hbt2=> ?_
  simpa [qa0] using h v' s2 htb2 hob (hbt.trans hbt2)
theorem qs6 (b i:Nat) (v:Value) (L:List Lk) (hok:∀x∈L,x.sp.ok) (u:Int) (hu0:0≤u) (hu:u<2^41) (σ:CSt) (hn:gnone σ) (ht:Tb m0 b i v σ L) (hL:L.length<2^36) (Q:Out→CSt→Prop)
  (h:∀(v':Value) (σ':CSt),Tb m0 b i v' σ' ((L.map (qja u)).filter λx=>full x.sp)→qb1 v'=qb1 v→Bt i v σ σ'→Q (.ret (.tuple #[]) false) σ'):W E1 (.fn 118 #[.pointer (some ⟨i,1,none⟩), .int .u64 u] none) σ Q:=by
 have ht0:=ht;obtain⟨hg,hbi,hin,hown⟩:=ht;rw [qap (fn:=Tryz.f118) Tryz.func118 rfl rfl rfl];obtain⟨pv,cv,rfl⟩:=(hown.sl (sz:=5) qe1).form;simp [qa0,hg];refine qak (λn a s=>∃tm j,a=⟨tm,33, [],false⟩∧tm.get 0=some (.pointer (some ⟨i,1,none⟩))∧tm.get 1=some (.int .u64 u)∧tm.get 9=some (.slice pv L.length cv)∧tm.get 10=some (.int .i64 L.length)∧tm.get 11=some (.int .i64 (j:Nat))∧j≤L.length∧n=L.length-j∧Tb m0 b i (.slice pv L.length cv) s (mid (qja u) L j)∧Bt i (.slice pv L.length cv) σ s)
  (λout s=>∃tm,out= .code (.exit 0) ⟨tm,33, [],false⟩∧tm.get 0=some (.pointer (some ⟨i,1,none⟩))∧Tb m0 b i (.slice pv L.length cv) s (L.map (qja u))∧Bt i (.slice pv L.length cv) σ s) ?_ L.length _ _ ?_ ?_
 ·rintro n a s ⟨tm,j,rfl,e0,e1,e9,e10,e11,hj,hnn,htb,hbt⟩;by_cases hjl:j<L.length
  ·have htb0:=htb;obtain⟨hgi,_,hin2,how2⟩:=htb;rcases how2 with⟨h1,h2⟩|⟨q,cap,zs,h1,hbq,hq,hgq,hzs,hcap⟩
   ·have:=qey (qja u) L j;rw [h2] at this;simp at this;omega
   rw [qey] at h1;have hwj:=qb7 j (by omega)
   cases h1;have hml:=qey (qja u) L j;have hjm:j<(mid (qja u) L j).length:=by omega
   have hld:=qam (enc:=qag) qe1 (rowZ qe1 (mid (qja u) L j) zs) j hjm;rw [qln _ _ _ hjl,Nat.zero_add] at hld;have hrl:((mid (qja u) L j).flatMap qag++zs).length=L.length*5+zs.length:=by rw [List.length_append,qa5 qag qe1,hml]
   have hle1:j*5+5≤((mid (qja u) L j).flatMap qag++zs).length:=by omega
   have hle2:j*5+1≤((mid (qja u) L j).flatMap qag++zs).length:=by omega
   have hjl':(j:Int)<L.length:=by omega
   have hqi:q≠i:=λe=>htb0.ne (by rw [←e];rfl)
   have hqi2:¬i=q:=λe=>hqi e.symm
   have hqn:¬q=s.n:=by omega
   have hrs:=qvc (mid (qja u) L j) j hjm zs (qbi L[j].sp u);have hle3:j*5+3+2≤((mid (qja u) L j).flatMap qag++zs).length:=by omega
   have hnow:Tb m0 b i (.slice (some ⟨q,0,none⟩) L.length cv) s (mid (qja u) L j):=htb0;have hzs5:=hzs;generalize hrw:(mid (qja u) L j).flatMap qag++zs=row at hgq hld hle1 hle2 hrs hle3;have hg5:Grow s ((s.alloc (.cells [.int .i64 0, .string ⟨#[]⟩, .string ⟨#[]⟩, .int .u64 0, .int .u64 0] 99 false)).put s.n (.cells (qag L[j]) 99 false)):=((Grow.refl s).alloc _).put (Nat.le_refl _) _;have hc5:((s.alloc (.cells [.int .i64 0, .string ⟨#[]⟩, .string ⟨#[]⟩, .int .u64 0, .int .u64 0] 99 false)).put s.n (.cells (qag L[j]) 99 false)).get s.n=some (.cells (qag L[j]) 99 false):=by simp
   have hn5:((s.alloc (.cells [.int .i64 0, .string ⟨#[]⟩, .string ⟨#[]⟩, .int .u64 0, .int .u64 0] 99 false)).put s.n (.cells (qag L[j]) 99 false)).n=s.n+1:=by simp
   simp only [qag] at hg5 hc5 hn5;simp [qa0,e0,e1,e9,e10,e11,hjl,hjl',hgq,hld,hle1];simp [qa0,qag,e0,e1,e9,e10,e11,hwj,-qg0];generalize (s.alloc (.cells [.int .i64 0, .string ⟨#[]⟩, .string ⟨#[]⟩, .int .u64 0, .int .u64 0] 99 false)).put s.n (.cells [.int .i64 L[j].owner, .string L[j].frm, .string L[j].til, .int .u64 L[j].sp.lo, .int .u64 L[j].sp.hi] 99 false)=s1 at hg5 hc5 hn5⊢;have hgq1:=hg5.get hgq hq;have hgi1:=hg5.get hgi hin2;by_cases c1:L[j].owner=0
   ·have hfr:qja u L[j]=⟨L[j].owner,L[j].frm,L[j].til,qbi L[j].sp u⟩:=by unfold qja;rw [if_pos c1]
    have hut:Nat.testBit 1023 4=true:=by decide
    simp [qa0,e0,e1,e9,e10,e11,hjl,hjl',hc5,c1];have hb2:Bt i (.slice (some ⟨q,0,none⟩) L.length cv) s s1:=hg5.bt;have hc6:=hc5;have hgi2:=hgi1;have hgq2:=hgq1;have hn2:=hn5;have hgn:gnone s1:=htb0.gnone (ht0.gnone hn (by omega) hbt) (by omega) hb2
    refine qcv (l:= [0,1,2,3,4,5,6,7,8,9,10,11]) (b:= #[0,1,3,7,0,0,32,0,224,511,1023,2047]) (by kernel_rfl) (by kernel_rfl) (by kernel_rfl) ?_
    simp [qa7,qal,qab,qb9,qa3,qa9,Nat.add_assoc,e0,e1,e9,e10,e11,hc6,hgi2];have hbs:=qjp L[j].sp (hok _ (List.getElem_mem hjl)) u (by omega) (by omega) s1 hgn (by omega)
    simp only [encS] at hbs;refine hbs _ λs3 g3=> ?_
    have hgi3:=g3.get hgi2 (by omega)
    have hgq3:=g3.get hgq2 (by omega)
    have hc7:=g3.get hc6 (by omega)
    have hqn2:¬s.n=q:=by omega
    have hend:(mid (qja u) L j).set j ⟨(mid (qja u) L j)[j].owner,(mid (qja u) L j)[j].frm,(mid (qja u) L j)[j].til,qbi L[j].sp u⟩=mid (qja u) L (j+1):=by
     rw [qln _ _ _ hjl,←qu4 (qja u) L j hjl,hfr]
    rw [hend] at hrs;have hrs':row.take (j*5+3)++ [.int .u64 (qbi L[j].sp u).lo, .int .u64 (qbi L[j].sp u).hi]++row.drop (j*5+5)=(mid (qja u) L (j+1)).flatMap qag++zs:=by
     rw [←hrs,List.append_assoc];rfl
    have gn3:=g3.n;have hfin:Tb m0 b i (.slice (some ⟨q,0,none⟩) L.length cv) (s3.put q (.cells (row.take (j*5+3)++ [.int .u64 (qbi L[j].sp u).lo, .int .u64 (qbi L[j].sp u).hi]++row.drop (j*5+5)) 99 false)) (mid (qja u) L (j+1)):=by
     rw [hrs'];refine⟨by rw [CSt.get_put,if_neg hqi2];exact hgi3,hbi,by simp;omega, .inr ⟨q,cv,zs,by rw [qey],hbq,by simp;omega,by simp,hzs5, ?_⟩⟩
     rcases hcap with hcap|⟨hcap,_⟩
     ·exact .inl hcap
     ·rw [hcap] at hml;simp at hml;omega
    have hfb:Bt i (.slice (some ⟨q,0,none⟩) L.length cv) σ (s3.put q (.cells (row.take (j*5+3)++ [.int .u64 (qbi L[j].sp u).lo, .int .u64 (qbi L[j].sp u).hi]++row.drop (j*5+5)) 99 false)):=
     (hbt.trans hb2).trans ((g3.butV (v:= .slice (some ⟨q,0,none⟩) L.length cv)).putV rfl _).bt
    simp [qa7,qa0,qal,qab,qb9,qa3,qa9,Nat.add_assoc,e0,e1,e9,e10,e11,hc7,hgi3,hgq3,hwj,hle3,hut,hjl,hjl',hqi2,hqn2,-List.append_assoc];exact⟨L.length-(j+1),by omega,j+1,rfl,by omega,rfl,hfin,hfb⟩
   ·have hfr:qja u L[j]=L[j]:=by unfold qja;rw [if_neg c1]
    simp [qa0,e0,e1,e9,e10,e11,hjl,hjl',hc5,c1,hwj];exact⟨L.length-(j+1),by omega,j+1,rfl,by omega,rfl,by rw [qvn _ _ _ hjl hfr];exact hnow.grow hg5,hbt.trans hg5.bt⟩
  ·have hjl':j=L.length:=by omega
   subst hjl';rw [zal] at htb;simp [qa0,e0,e9,e10,e11];exact⟨htb,hbt⟩
 ·refine⟨_,0,rfl, ?_⟩;simp;exact⟨ht0,(Grow.refl _).bt⟩
 ·rintro out s ⟨tm,rfl,e0,htb,hbt⟩;simp [qa0,e0];refine qmv b i _ _ s htb (by simpa using hL) _ λv' s2 htb2 hob hbt2=> ?_
  simpa [qa0] using h v' s2 htb2 hob (hbt.trans hbt2)
end Go.Sm
namespace Go.Sm
open Go
set_option maxRecDepth 100000
set_option maxHeartbeats 4000000
section
variable {P:Program} {σ:CSt} {ev:Operand→Value}
@[simp] theorem callOp_delete (o:Oper) (m k:Operand) (ts:Array TypeId):qbs P σ ev o ⟨.builtin .delete, #[m,k],ts⟩=OpR.ofS (qha P σ ts (ev m) (ev k)):=by
 have:(Array.map ev #[m,k]).toList= [ev m,ev k]:=by simp
 simp only [qbs,this]
end
section
variable {κ:Type} [DecidableEq κ]
theorem qe5 {α β:Type} (f:α→β):∀(l:List α) (j:Nat),(l.eraseIdx j).map f=(l.map f).eraseIdx j
 | [],_=>rfl
 |_::_,0=>rfl
 |x::l,j+1=>by simp [qe5 f l j]
def qrt (M:MlG κ) (k:κ):MlG κ:=M.filter λp=> !decide (p.1=k)
theorem qyg {k:κ}:∀{M:MlG κ} {i j:Nat} {w:Value},(M.map (·.1)).Nodup→qq5 k M i=some (j,w)→qrt M k=M.eraseIdx (j-i)
 | [],_,_,_,_,h=>by cases h
 |p::M,i,j,w,hn,h=>by
  rw [List.map_cons,List.nodup_cons] at hn;unfold qq5 at h;by_cases e:p.1=k
  ·rw [if_pos e] at h;cases h;have:qrt M k=M:=List.filter_eq_self.2 λq hq=>by
    have:q.1≠k:=λe2=>hn.1 (by rw [e,←e2];exact List.mem_map_of_mem (f:=(·.1)) hq)
    simpa using this
   unfold qrt at this⊢;rw [List.filter_cons];simp [e,this]
  ·rw [if_neg e] at h;obtain⟨h1,_⟩:=qez (v:=undef) h;have ih:=qyg hn.2 h;have h2:j-i=(j-(i+1))+1:=by omega
   unfold qrt at ih⊢;rw [List.filter_cons,h2,List.eraseIdx_cons_succ,ih];simp [e]
theorem zb8 {k:κ} {M:MlG κ} (h:∀p∈M,p.1≠k):qrt M k=M:=List.filter_eq_self.2 λq hq=>by simpa using h q hq
theorem qzd {k:κ} {M:MlG κ} (h:(M.map (·.1)).Nodup):((qrt M k).map (·.1)).Nodup:=h.sublist ((List.filter_sublist).map _)
variable {P:Program} {σ:CSt} {t kt et:TypeId} {ts:Array TypeId} {m:Nat} {M:MlG κ} {k:κ} {key:κ→Value} {kd:TypeDesc}
theorem qhf {α:Type} (a:Array α) (j:Nat):(a.eraseIdxIfInBounds j).toList=a.toList.eraseIdx j:=by
 unfold Array.eraseIdxIfInBounds;split
 ·simp
 ·rename_i h;rw [List.eraseIdx_of_length_le (by simpa using h)]
theorem qdo (hts:ts[0]? =some t) (ht:P.underlying t=some (.map kt et)) (hk:qdb P kt=some kd) (hK:Keyed key kd) (h:MpG key σ m M):∃o,qha P σ ts (.map (some m)) (key k)=some (σ.put m o)∧MpG key (σ.put m o) m (qrt M k)∧
  (∀r S,MIt key σ r m M S→(∀p∈S,p.1≠k)→MIt key (σ.put m o) r m (qrt M k) S):=by
 obtain⟨es,clock,hg,he⟩:=h;have hf:qht P kt (key k) es=some (qq5 k M 0):=by unfold qht;rw [hk];exact qf2 hK k _ M 0 he.ents
 unfold qha;rw [hts];simp only [ht,CSt.maps,hg,hf,hK.flat,if_true];cases hp:qq5 k M 0 with
 |none=>
  have hd:=zb8 (qh1 (v:=undef) hp).2.2;rw [hd];refine⟨_,rfl,⟨es,clock,by rw [CSt.get_put,if_pos rfl],he⟩,λr S hit hS=> ?_⟩
  obtain⟨es',c',seen,h1,h2,h3,h4,h5⟩:=hit;rw [hg] at h1;cases h1;exact⟨es,clock,seen,by rw [CSt.get_put,if_pos rfl],h2,by rw [CSt.get_put,if_neg h4];exact h3,h4,h5⟩
 |some jw=>
  obtain⟨j,w⟩:=jw;have hd:=qyg he.keys hp;obtain⟨h1,h2,h3,h4,h5⟩:=qez (v:=undef) hp;rw [Nat.sub_zero] at hd h2 h5;have hl:=qf8.length he.ents;have hj:j<es.toList.length:=by omega
  have hok:EntsOk key (es.eraseIdxIfInBounds j).toList clock (qrt M k):=by
   have hk2:=qzd (k:=k) he.keys;rw [qhf];refine⟨?_, ?_,λe h=>he.born e (List.mem_of_mem_eraseIdx h),hk2⟩
   ·have:=he.ents;unfold qf8 at this⊢;rw [hd,qe5,qe5,this]
   ·rw [qe5];exact he.nodup.sublist (List.eraseIdx_sublist _ _)
  refine⟨_,rfl,⟨_,_,by rw [CSt.get_put,if_pos rfl],hok⟩,λr S hit hS=> ?_⟩
  obtain⟨es',c',seen,g1,g2,g3,g4,g5⟩:=hit;rw [hg] at g1;cases g1;refine⟨_,clock,seen,by rw [CSt.get_put,if_pos rfl],hok,by rw [CSt.get_put,if_neg g4];exact g3,g4, ?_⟩
  rw [qhf]
  --the entry that goes was seen
  have hkey:es.toList[j].key=key k:=by
   have:=he.ents;unfold qf8 at this;have h6:=congrArg (·[j]?) this
   simp only [List.getElem?_map] at h6;rw [List.getElem?_eq_getElem hj] at h6;cases hM:M[j]? with
   |none=>rw [hM] at h5;cases h5
   |some p=>
    rw [hM] at h5 h6;simp at h5 h6;rw [Array.getElem_toList,h6.1,h5]
  have hseen:seen.contains es.toList[j].born=true:=by
   cases hc:seen.contains es.toList[j].born with
   |true=>rfl
   |false=>
    exfalso;have hm:es.toList[j]∈es.toList.filter λe=> !seen.contains e.born:=List.mem_filter.2 ⟨List.getElem_mem hj,by rw [hc];rfl⟩
    have h6:(es.toList[j].key,es.toList[j].val)∈(es.toList.filter λe=> !seen.contains e.born).map λe=>(e.key,e.val):=List.mem_map.2 ⟨_,hm,rfl⟩
    rw [g5] at h6;obtain⟨p,h7,h8⟩:=List.mem_map.1 h6;have h9:key p.1=key k:=by rw [←hkey];exact congrArg Prod.fst h8
    exact hS p h7 (hK.inj _ _ h9)
  have hfil:(es.toList.eraseIdx j).filter (λe=> !seen.contains e.born)=es.toList.filter λe=> !seen.contains e.born:=by
   rw [List.eraseIdx_eq_take_drop_succ]
   conv=>rhs;rw [←List.take_append_drop j es.toList,List.drop_eq_getElem_cons hj]
   rw [List.filter_append,List.filter_append,List.filter_cons,hseen];simp
  rw [hfil];exact g5
theorem za8 (ht:P.underlying t=some (.map kt et)) (hk:qdb P kt=some kd) (hK:Keyed key kd) {r:Nat} {S:MlG κ} (h:MIt key σ r m M S) (hold:qkg M k≠none) (hS:∀p∈S,p.1≠k) (v:Value):∃o,qdh P σ t (.map (some m)) (key k) v=some (σ.put m o)∧MIt key (σ.put m o) r m (ql3 M k v) S:=by
 obtain⟨es,clock,seen,hg,he,g3,g4,g5⟩:=h;obtain⟨o,h1,h2⟩:=qct (k:=k) (v:=v) ht hk hK (⟨es,clock,hg,he⟩:MpG key σ m M);have hf:qht P kt (key k) es=some (qq5 k M 0):=by unfold qht;rw [hk];exact qf2 hK k _ M 0 he.ents
 unfold qdh at h1;rw [ht] at h1;simp only [CSt.maps,hg,hf,hK.flat,if_true] at h1;cases hp:qq5 k M 0 with
 |none=>exact absurd (qh1 (v:=v) hp).1 hold
 |some jw=>
  obtain⟨j,w⟩:=jw;rw [hp] at h1;have h1':=Option.some.inj h1;have ho:(σ.put m o).get m=some o:=by rw [CSt.get_put,if_pos rfl]
  have ho2:(σ.put m o).get m=some (.map (es.modify j λe=>{e with key:=key k,val:=v}) clock):=by rw [←h1',CSt.get_put,if_pos rfl]
  refine⟨o, ?_, ?_⟩
  ·rw [←h1'];unfold qdh;rw [ht];simp only [CSt.maps,hg,hf,hK.flat,if_true,hp]
  obtain⟨es2,c2,k1,k2⟩:=h2;rw [ho2] at k1;cases k1;obtain⟨i1,i2,i3,i4,i5⟩:=qez (v:=v) hp;rw [Nat.sub_zero] at i2 i5;have hl:=qf8.length he.ents;have hj:j<es.toList.length:=by omega
  refine⟨_,clock,seen,ho2,k2,by rw [CSt.get_put,if_neg g4];exact g3,g4, ?_⟩
  have hkey:es.toList[j].key=key k:=by
   have:=he.ents;unfold qf8 at this;have h6:=congrArg (·[j]?) this
   simp only [List.getElem?_map] at h6;rw [List.getElem?_eq_getElem hj] at h6;cases hM:M[j]? with
   |none=>rw [hM] at i5;cases i5
   |some p=>
    rw [hM] at i5 h6;simp at i5 h6;rw [Array.getElem_toList,h6.1,i5]
  have hseen:seen.contains es.toList[j].born=true:=by
   cases hc:seen.contains es.toList[j].born with
   |true=>rfl
   |false=>
    exfalso;have hm:es.toList[j]∈es.toList.filter λe=> !seen.contains e.born:=List.mem_filter.2 ⟨List.getElem_mem hj,by rw [hc];rfl⟩
    have h6:(es.toList[j].key,es.toList[j].val)∈(es.toList.filter λe=> !seen.contains e.born).map λe=>(e.key,e.val):=List.mem_map.2 ⟨_,hm,rfl⟩
    rw [g5] at h6;obtain⟨p,h7,h8⟩:=List.mem_map.1 h6;have h9:key p.1=key k:=by rw [←hkey];exact congrArg Prod.fst h8
    exact hS p h7 (hK.inj _ _ h9)
  have hmod:(es.modify j λe=>{e with key:=key k,val:=v}).toList=es.toList.take j++{es.toList[j] with key:=key k,val:=v}::es.toList.drop (j+1):=by
   rw [Array.toList_modify,List.modify_eq_take_cons_drop hj]
  have hfil:(es.modify j λe=>{e with key:=key k,val:=v}).toList.filter (λe=> !seen.contains e.born)=es.toList.filter λe=> !seen.contains e.born:=by
   rw [hmod]
   conv=>rhs;rw [←List.take_append_drop j es.toList,List.drop_eq_getElem_cons hj]
   rw [List.filter_append,List.filter_append,List.filter_cons_of_neg (by simp only [hseen];decide),List.filter_cons_of_neg (by simp only [hseen];decide)]
  rw [hfil];exact g5
end
end Go.Sm
namespace Go.Sm
open Go Go.Proofs
set_option maxRecDepth 100000
set_option maxHeartbeats 4000000
theorem qbn {α:Type}:∀{S:List α} {j:Nat} (hj:j<S.length),S.Perm (S[j]::S.eraseIdx j)
 | [],_,h=>by simp at h
 |x::S,0,_=> .refl _
 |x::S,j+1,h=>by
  have ih:=qbn (S:=S) (j:=j) (by simpa using h)
  simp only [List.getElem_cons_succ,List.eraseIdx_cons_succ];exact(ih.cons x).trans (.swap _ _ _)
def hdK (s:Bool):Value:= .int .i64 (if s then 1 else 0)
def hdB (s:Bool):Value:= .bool s
def qfo (hd:Bool→Value) (t:Tx) (w:Value):List Value:= [hd t.snap, .int .u64 t.sp.lo, .int .u64 t.sp.hi,w]
def wv (t:Tx) (w:Nat):Value:=if t.snap then .map none else .map (some w)
def qed (wr:List (ByteArray×Ver)):Ml:=wr.map λp=>(p.1, .agg (qad p.2).toArray)
def ptr (x:Nat):Value:= .pointer (some ⟨x,0,none⟩)
structure TxR (hd:Bool→Value) (ty:TypeId) (F:Nat→Prop) (σ:CSt) (t:Tx) (x w:Nat):Prop where
 fx:F x
 lx:x<σ.n
 cell:σ.get x=some (.cells (qfo hd t (wv t w)) ty false)
 wr:t.snap=false→F w∧w<σ.n∧∃W,MpG Value.string σ w W∧W.Perm (qed t.wr)
structure Lv (hd:Bool→Value) (ty:TypeId) (F:Nat→Prop) (σ:CSt) (ml:Nat) (X Wn:Int→Nat) (live:List (Int×Tx)):Prop where
 fm:F ml
 lm:ml<σ.n
 map:MpG (Value.int .i64) σ ml (live.map λq=>(q.1,ptr (X q.1)))
 tx:∀q∈live,TxR hd ty F σ q.2 (X q.1) (Wn q.1)
 injX:∀q∈live,∀r∈live,X q.1=X r.1→q.1=r.1
 injW:∀q∈live,∀r∈live,q.2.snap=false→r.2.snap=false→Wn q.1=Wn r.1→q.1=r.1
 wml:∀q∈live,q.2.snap=false→Wn q.1≠ml
section
variable {T:TypeId→Prop} {M F F':Nat→Prop} {s s0 s1:CSt} {hd:Bool→Value} {ty:TypeId} {ml:Nat} {X Wn:Int→Nat} {live:List (Int×Tx)}
theorem TxR.ch {t:Tx} {x w:Nat} (h:TxR hd ty F s0 t x w) (k:Ch T M F' s0 s1) (h1:F x→F' x→¬T ty) (h2:t.snap=false→F w→F' w→¬M w):TxR hd ty F s1 t x w:=
 ⟨h.fx,Nat.lt_of_lt_of_le h.lx k.1,k.cell h.cell h.lx (h1 h.fx),λhs=>by
  obtain⟨a,b,W,c,d⟩:=h.wr hs
  exact⟨a,Nat.lt_of_lt_of_le b k.1,W,c.ch b k (h2 hs a),d⟩⟩
theorem TxR.mono {t:Tx} {x w:Nat} (h:TxR hd ty F s t x w) (hF:∀j,j<s.n→F j→F' j):TxR hd ty F' s t x w:=
 ⟨hF _ h.lx h.fx,h.lx,h.cell,λhs=>by
  obtain⟨a,b,c⟩:=h.wr hs
  exact⟨hF _ b a,b,c⟩⟩
theorem Lv.ch (h:Lv hd ty F s0 ml X Wn live) (k:Ch T M F' s0 s1) (h1:∀j,F j→F' j→¬T ty) (h2:∀j,F j→F' j→M j→j≠ml∧∀q∈live,q.2.snap=false→Wn q.1≠j):Lv hd ty F s1 ml X Wn live:=
 ⟨h.fm,Nat.lt_of_lt_of_le h.lm k.1,h.map.ch h.lm k λa b=>(h2 _ h.fm a b).1 rfl,λq hq=>(h.tx q hq).ch k (h1 _) λhs a b c=>(h2 _ a b c).2 q hq hs rfl,h.injX,h.injW,h.wml⟩
theorem Lv.mono (h:Lv hd ty F s ml X Wn live) (hF:∀j,j<s.n→F j→F' j):Lv hd ty F' s ml X Wn live:=
 ⟨hF _ h.lm h.fm,h.lm,h.map,λq hq=>(h.tx q hq).mono hF,h.injX,h.injW,h.wml⟩
theorem qh0 (X:Int→Nat) (n:Int):∀live:List (Int×Tx),qkg (live.map λq=>(q.1,ptr (X q.1))) n=(live.find? λx=>decide (x.1=n)).map λ_=>ptr (X n)
 | []=>rfl
 |q::live=>by
  have ih:=qh0 X n live;unfold qkg at ih⊢;rw [List.map_cons,List.find?_cons,List.find?_cons];by_cases e:q.1=n
  ·simp [e]
  ·simp only [e,decide_false];exact ih
theorem qz7 (X:Int→Nat) (n:Int) (live:List (Int×Tx)):qrt (live.map λq=>(q.1,ptr (X q.1))) n=(live.filter λx=> !decide (x.1=n)).map λq=>(q.1,ptr (X q.1)):=by
 unfold qrt;rw [List.filter_map]
 rfl
theorem qiw {κ:Type} [DecidableEq κ] {k:κ} {v:Value}:∀{M:MlG κ},(∀p∈M,p.1≠k)→ql3 M k v=M++ [(k,v)]
 | [],_=>rfl
 |p::M,h=>by
  unfold ql3;rw [if_neg (h p (by simp)),qiw λq hq=>h q (by simp [hq])]
  rfl
def updX (X:Int→Nat) (n:Int) (x:Nat):Int→Nat:=λm=>if m=n then x else X m
theorem qdg (X:Int→Nat) (n:Int) (x:Nat):updX X n x n=x:=if_pos rfl
theorem qdd {X:Int→Nat} {n m:Int} {x:Nat} (h:m≠n):updX X n x m=X m:=if_neg h
theorem Lv.push (h:Lv hd ty F s ml X Wn live) {n:Int} {t:Tx} {x w:Nat} (hn:∀q∈live,q.1≠n) (hx:TxR hd ty F s t x w) (hX:∀q∈live,X q.1≠x) (hW:t.snap=false→w≠ml∧∀q∈live,q.2.snap=false→Wn q.1≠w) {o:CObj}
  (ho:MpG (Value.int .i64) (s.put ml o) ml (ql3 (live.map λq=>(q.1,ptr (X q.1))) n (ptr x))):Lv hd ty F (s.put ml o) ml (updX X n x) (updX Wn n w) (live++ [(n,t)]):=by
 have hml:∀{i row e ro},s.get i=some (.cells row e ro)→i≠ml:=fun {i row e ro} hi e1=>by
  obtain⟨es,c,e2⟩:=h.map.isMap;rw [e1,e2] at hi;cases hi
 have hk:∀{t:Tx} {y v:Nat},TxR hd ty F s t y v→(t.snap=false→v≠ml)→TxR hd ty F (s.put ml o) t y v:=fun {t y v} a b=>
  ⟨a.fx,a.lx,by rw [CSt.get_put,if_neg (hml a.cell)];exact a.cell,λhs=>by
   obtain⟨c,d,W,⟨es,ck,e1,e2⟩,e3⟩:=a.wr hs
   exact⟨c,d,W,⟨es,ck,by rw [CSt.get_put,if_neg (b hs)];exact e1,e2⟩,e3⟩⟩
 refine⟨h.fm,h.lm, ?_,λq hq=> ?_,λq hq r hr e=> ?_,λq hq r hr hs hs' e=> ?_,λq hq hs=> ?_⟩
 ·rw [qiw λp hp=>by obtain⟨q,hq,rfl⟩:=List.mem_map.1 hp;exact hn q hq] at ho
  have:(live++ [(n,t)]).map (λq=>(q.1,ptr (updX X n x q.1)))=(live.map λq=>(q.1,ptr (X q.1)))++ [(n,ptr x)]:=by
   rw [List.map_append]
   congr 1
   ·exact List.map_congr_left λq hq=>by rw [qdd (hn q hq)]
   ·simp [qdg]
  rw [this];exact ho
 ·rcases List.mem_append.1 hq with hq|hq
  ·rw [qdd (hn q hq),qdd (hn q hq)];exact hk (h.tx q hq) λhs=>h.wml q hq hs
  ·rw [List.mem_singleton] at hq;subst hq;simp only [qdg];exact hk hx λhs=>(hW hs).1
 ·rcases List.mem_append.1 hq with hq|hq<;>rcases List.mem_append.1 hr with hr|hr
  ·rw [qdd (hn q hq),qdd (hn r hr)] at e;exact h.injX q hq r hr e
  ·rw [List.mem_singleton] at hr;subst hr;rw [qdd (hn q hq),qdg] at e;exact absurd e (hX q hq)
  ·rw [List.mem_singleton] at hq;subst hq;rw [qdd (hn r hr),qdg] at e;exact absurd e.symm (hX r hr)
  ·rw [List.mem_singleton] at hq hr;rw [hq,hr]
 ·rcases List.mem_append.1 hq with hq|hq<;>rcases List.mem_append.1 hr with hr|hr
  ·rw [qdd (hn q hq),qdd (hn r hr)] at e;exact h.injW q hq r hr hs hs' e
  ·rw [List.mem_singleton] at hr;subst hr;rw [qdd (hn q hq),qdg] at e;exact absurd e ((hW hs').2 q hq hs)
  ·rw [List.mem_singleton] at hq;subst hq;rw [qdd (hn r hr),qdg] at e;exact absurd e.symm ((hW hs).2 r hr hs')
  ·rw [List.mem_singleton] at hq hr;rw [hq,hr]
 ·rcases List.mem_append.1 hq with hq|hq
  ·rw [qdd (hn q hq)];exact h.wml q hq hs
  ·rw [List.mem_singleton] at hq;subst hq;rw [qdg];exact(hW hs).1
theorem Lv.del (h:Lv hd ty F s ml X Wn live) (n:Int) {o:CObj} (ho:MpG (Value.int .i64) (s.put ml o) ml (qrt (live.map λq=>(q.1,ptr (X q.1))) n)):Lv hd ty F (s.put ml o) ml X Wn (live.filter λx=> !decide (x.1=n)):=by
 have hml:∀{i row e ro},s.get i=some (.cells row e ro)→i≠ml:=fun {i row e ro} hi e1=>by
  obtain⟨es,c,e2⟩:=h.map.isMap;rw [e1,e2] at hi;cases hi
 have hm:∀{q},q∈(live.filter λx=> !decide (x.1=n))→q∈live:=λhq=>(List.mem_filter.1 hq).1
 refine⟨h.fm,h.lm,by rw [←qz7];exact ho,λq hq=> ?_,λq hq r hr=>h.injX q (hm hq) r (hm hr),λq hq r hr=>h.injW q (hm hq) r (hm hr),λq hq=>h.wml q (hm hq)⟩
 have a:=h.tx q (hm hq)
 exact⟨a.fx,a.lx,by rw [CSt.get_put,if_neg (hml a.cell)];exact a.cell,λhs=>by
   obtain⟨c,d,W,⟨es,ck,e1,e2⟩,e3⟩:=a.wr hs
   exact⟨c,d,W,⟨es,ck,by rw [CSt.get_put,if_neg (h.wml q (hm hq) hs)];exact e1,e2⟩,e3⟩⟩
theorem qu7 (X:Int→Nat) (n:Int) (u:Tx) (live:List (Int×Tx)):(live.map λx=>if x.1=n then(n,u) else x).map (λq=>(q.1,ptr (X q.1)))=live.map λq=>(q.1,ptr (X q.1)):=by
 rw [List.map_map];refine List.map_congr_left λq hq=> ?_
 by_cases e:q.1=n
 ·simp [e]
 ·simp [e]
theorem Lv.set (h:Lv hd ty F s ml X Wn live) {n:Int} {t u:Tx} (hm:(n,t)∈live) (hu:∀x∈live,x.1=n→x.2=t) (hs:u.snap=t.snap) (hw:u.wr=t.wr) {o:CObj} (ho:o= .cells (qfo hd u (wv t (Wn n))) ty false):Lv hd ty F (s.put (X n) o) ml X Wn (live.map λx=>if x.1=n then(n,u) else x):=by
 have hx:=h.tx _ hm;have hxc:=hx.cell;simp only at hxc hx;have hml:ml≠X n:=λe=>by
  obtain⟨es,c,e2⟩:=h.map.isMap;rw [e,hxc] at e2;cases e2
 have hmp:∀{κ:Type} {key:κ→Value} {i:Nat} {L:MlG κ},MpG key s i L→MpG key (s.put (X n) o) i L:=fun {κ key i L} ⟨es,c,e1,e2⟩=>⟨es,c,by
  rw [CSt.get_put,if_neg (by rintro rfl;rw [hxc] at e1;cases e1)];exact e1,e2⟩
 have hmem:∀q∈(live.map λx=>if x.1=n then(n,u) else x),∃r∈live,r.1=q.1∧r.2.snap=q.2.snap:=λq hq=>by
  obtain⟨r,hr,e⟩:=List.mem_map.1 hq;by_cases e1:r.1=n
  ·rw [if_pos e1] at e;subst e;exact⟨r,hr,e1,by rw [hu r hr e1];exact hs.symm⟩
  ·rw [if_neg e1] at e;subst e;exact⟨r,hr,rfl,rfl⟩
 refine⟨h.fm,h.lm,by rw [qu7];exact hmp h.map,λq hq=> ?_,λq hq r hr e=> ?_,λq hq r hr hs1 hs2 e=> ?_,λq hq hs1=> ?_⟩
 ·obtain⟨r,hr,e⟩:=List.mem_map.1 hq;by_cases e1:r.1=n
  ·rw [if_pos e1] at e;subst e;refine⟨hx.fx,hx.lx, ?_,λhsn=> ?_⟩
   ·rw [CSt.get_put,if_pos rfl,ho];unfold wv;rw [hs]
   ·obtain⟨a,b,W,c,d⟩:=hx.wr (by rw [←hs];exact hsn)
    exact⟨a,b,W,hmp c,by rw [hw];exact d⟩
  ·rw [if_neg e1] at e;subst e;have a:=h.tx r hr;refine⟨a.fx,a.lx, ?_,λhsn=> ?_⟩
   ·rw [CSt.get_put,if_neg λe=>e1 (h.injX r hr _ hm e)];exact a.cell
   ·obtain⟨a,b,W,c,d⟩:=a.wr hsn;exact⟨a,b,W,hmp c,d⟩
 ·obtain⟨q',a1,a2,a3⟩:=hmem q hq;obtain⟨r',b1,b2,b3⟩:=hmem r hr;rw [←a2,←b2] at e⊢;exact h.injX _ a1 _ b1 e
 ·obtain⟨q',a1,a2,a3⟩:=hmem q hq;obtain⟨r',b1,b2,b3⟩:=hmem r hr;rw [←a2,←b2] at e⊢;exact h.injW _ a1 _ b1 (by rw [a3];exact hs1) (by rw [b3];exact hs2) e
 ·obtain⟨q',a1,a2,a3⟩:=hmem q hq;rw [←a2];exact h.wml _ a1 (by rw [a3];exact hs1)
theorem qrl {wr:List (ByteArray×Ver)} (h:Kup wr):((qed wr).map (·.1)).Nodup:=by
 unfold qed;rw [List.map_map];unfold Kup at h;rw [List.Nodup,List.pairwise_map];exact h.imp fun {a b} hab e=>by
  simp only [Function.comp] at e;rw [e,qah] at hab;cases hab
theorem qpr (k:ByteArray):∀wr:List (ByteArray×Ver),qkg (qed wr) k=(qaw wr k).map λv=> .agg (qad v).toArray
 | []=>rfl
 |p::wr=>by
  have ih:=qpr k wr;unfold qkg qaw qed at ih⊢;rw [List.map_cons,List.find?_cons,List.find?_cons];by_cases e:p.1=k
  ·simp [e]
  ·simp only [e,decide_false];exact ih
theorem zao {κ:Type} [DecidableEq κ] {A B:MlG κ} (h:A.Perm B) (hn:(A.map (·.1)).Nodup) (k:κ):qkg A k=qkg B k:=by
 have hB:(B.map (·.1)).Nodup:=(h.map _).nodup_iff.1 hn
 cases e:qkg A k with
 |none=>
  refine(qz5 λp hp e1=> ?_).symm
  have:=qki hn (k:=p.1) (v:=p.2) (h.mem_iff.2 hp);rw [e1,e] at this;cases this
 |some v=>
  have:(k,v)∈A:=by
   unfold qkg at e;obtain⟨p,h1,h2⟩:=Option.map_eq_some_iff.1 e;have h3:=List.mem_of_find?_eq_some h1;have h4:=List.find?_some h1;have h5:p.1=k:=by simpa using h4
   rw [←h5,←h2];exact h3
  exact(qki hB (h.mem_iff.1 this)).symm
theorem qzl {κ:Type} [DecidableEq κ] {A:MlG κ} (hn:(A.map (·.1)).Nodup) (k:κ) (v:Value):(ql3 A k v).Perm ((k,v)::A.filter λp=> !decide (p.1=k)):=by
 induction A with
 |nil=>exact .refl _
 |cons p A ih=>
  rw [List.map_cons,List.nodup_cons] at hn;unfold ql3;rw [List.filter_cons];by_cases e:p.1=k
  ·rw [if_pos e];have:(A.filter λp=> !decide (p.1=k))=A:=List.filter_eq_self.2 λq hq=>by
    have:q.1≠k:=λe2=>hn.1 (by rw [e,←e2];exact List.mem_map_of_mem (f:=(·.1)) hq)
    simpa using this
   simp [e,this]
  ·rw [if_neg e];simp only [e,decide_false,Bool.not_false,if_true];exact((ih hn.2).cons p).trans (.swap _ _ _)
theorem zbh {wr:List (ByteArray×Ver)} (h:Kup wr) (k:ByteArray) (v:Ver):(qj9 wr k v).Perm ((k,v)::wr.filter λp=> !decide (p.1=k)):=by
 unfold qj9;refine List.perm_middle.trans (List.Perm.cons _ ?_);have:∀l:List (ByteArray×Ver),((l.filter λp=>klt p.1 k)++l.filter λp=>klt k p.1).Perm (l.filter λp=> !decide (p.1=k)):=by
  intro l
  induction l with
  |nil=>exact .refl _
  |cons p l ih=>
   rw [List.filter_cons,List.filter_cons,List.filter_cons];by_cases e:p.1=k
   ·rw [e,qah];simpa using ih
   ·cases h1:klt p.1 k with
    |true=>
     have h2:klt k p.1=false:=by
      cases h2:klt k p.1 with
      |false=>rfl
      |true=>have:=qcy h1 h2;rw [qah] at this;cases this
     simp only [e,h2,decide_false,Bool.not_false,if_true,Bool.false_eq_true,if_false,List.cons_append];exact ih.cons p
    |false=>
     cases h2:klt k p.1 with
     |true=>
      simp only [e,decide_false,Bool.not_false,if_true,Bool.false_eq_true,if_false];exact List.perm_middle.trans (ih.cons p)
     |false=>exact absurd (qfa h1 h2) e
 exact this wr
theorem qni {W:Ml} {wr:List (ByteArray×Ver)} (h:Kup wr) (hp:W.Perm (qed wr)) (k:ByteArray) (v:Ver):(ql3 W k (.agg (qad v).toArray)).Perm (qed (qj9 wr k v)):=by
 have hn:(W.map (·.1)).Nodup:=(hp.map _).nodup_iff.2 (qrl h)
 refine(qzl hn k _).trans ?_;refine List.Perm.trans ?_ ((zbh h k v).map _).symm;rw [List.map_cons];refine List.Perm.cons _ ?_;refine(hp.filter _).trans ?_;unfold qed;rw [List.filter_map];exact .refl _
theorem Lv.wr (h:Lv hd ty F s ml X Wn live) {n:Int} {t u:Tx} (hm:(n,t)∈live) (hu:∀x∈live,x.1=n→x.2=t) (hs:t.snap=false) (he:u.snap=t.snap∧u.sp=t.sp) {o:CObj} {W:Ml} (ho:MpG Value.string (s.put (Wn n) o) (Wn n) W) (hp:W.Perm (qed u.wr)):Lv hd ty F (s.put (Wn n) o) ml X Wn (live.map λx=>if x.1=n then(n,u) else x):=by
 have hx:=h.tx _ hm;simp only at hx;obtain⟨hx1,hx2,W0,hx3,hx4⟩:=hx.wr hs;obtain⟨es0,c0,hx5⟩:=hx3.isMap;have hc:∀{i row e ro},s.get i=some (.cells row e ro)→(s.put (Wn n) o).get i=some (.cells row e ro):=fun {i row e ro} hi=>by
  rw [CSt.get_put,if_neg (by rintro rfl;rw [hx5] at hi;cases hi)];exact hi
 have hmp:∀{κ:Type} {key:κ→Value} {i:Nat} {L:MlG κ},MpG key s i L→i≠Wn n→MpG key (s.put (Wn n) o) i L:=fun {κ key i L} ⟨es,c,e1,e2⟩ hne=>⟨es,c,by
  rw [CSt.get_put,if_neg hne];exact e1,e2⟩
 have hmem:∀q∈(live.map λx=>if x.1=n then(n,u) else x),∃r∈live,r.1=q.1∧r.2.snap=q.2.snap:=λq hq=>by
  obtain⟨r,hr,e⟩:=List.mem_map.1 hq;by_cases e1:r.1=n
  ·rw [if_pos e1] at e;subst e;exact⟨r,hr,e1,by rw [hu r hr e1];exact he.1.symm⟩
  ·rw [if_neg e1] at e;subst e;exact⟨r,hr,rfl,rfl⟩
 refine⟨h.fm,h.lm,by rw [qu7];exact hmp h.map λe=>h.wml _ hm hs e.symm,λq hq=> ?_,λq hq r hr e=> ?_,λq hq r hr hs1 hs2 e=> ?_,λq hq hs1=> ?_⟩
 ·obtain⟨r,hr,e⟩:=List.mem_map.1 hq;by_cases e1:r.1=n
  ·rw [if_pos e1] at e;subst e;refine⟨hx.fx,hx.lx, ?_,λhsn=>⟨hx1,hx2,W,ho,hp⟩⟩
   have:=hc hx.cell;rw [this];unfold qfo wv;rw [he.1,he.2]
  ·rw [if_neg e1] at e;subst e;have a:=h.tx r hr;refine⟨a.fx,a.lx,hc a.cell,λhsn=> ?_⟩
   obtain⟨a,b,W,c,d⟩:=a.wr hsn;exact⟨a,b,W,hmp c λe=>e1 (h.injW r hr _ hm hsn hs e),d⟩
 ·obtain⟨q',a1,a2,a3⟩:=hmem q hq;obtain⟨r',b1,b2,b3⟩:=hmem r hr;rw [←a2,←b2] at e⊢;exact h.injX _ a1 _ b1 e
 ·obtain⟨q',a1,a2,a3⟩:=hmem q hq;obtain⟨r',b1,b2,b3⟩:=hmem r hr;rw [←a2,←b2] at e⊢;exact h.injW _ a1 _ b1 (by rw [a3];exact hs1) (by rw [b3];exact hs2) e
 ·obtain⟨q',a1,a2,a3⟩:=hmem q hq;rw [←a2];exact h.wml _ a1 (by rw [a3];exact hs1)
end
structure RGx (F:Nat→Prop) (σ:CSt) (g sp ml mt:Nat) (v:Value) (X Wn:Int→Nat) (ks:List Int) (P:PM):Prop where
 fg:F g
 tb:Tb ⟨ptr sp,P.clock,P.last,ml,mt⟩ 0 g v σ P.L
 fv:inF F v
 st:St F σ sp P.S
 lv:Lv hdK 144 F σ ml X Wn P.live
 fm:F mt
 lm:mt<σ.n
 tk:MpG (Value.int .u64) σ mt (ks.map λa=>(a, .agg #[]))
 tkp:∀a,a∈ks↔a∈P.taken
 tml:mt≠ml
 tw:∀q∈P.live,q.2.snap=false→Wn q.1≠mt
def RG (F:Nat→Prop) (σ:CSt) (g:Nat) (P:PM):Prop:=∃sp ml mt v X Wn ks,RGx F σ g sp ml mt v X Wn ks P
def gT (t:TypeId):Prop:=t=85∨t=99∨t=144∨t=267∨t=269
def qcd:Nat→Prop:=λ_=>True
section
variable {T:TypeId→Prop} {M F F':Nat→Prop} {s s0 s1:CSt} {g sp ml mt:Nat} {v:Value} {X Wn:Int→Nat} {ks:List Int} {P:PM}
theorem RGx.cell (h:RGx F s g sp ml mt v X Wn ks P):s.get g=some (.cells [ptr sp,v, .int .u64 P.clock, .int .i64 P.last, .map (some ml), .map (some mt)] 85 false):=h.tb.1
theorem RGx.lt (h:RGx F s g sp ml mt v X Wn ks P):g<s.n:=h.tb.2.2.1
theorem RGx.own (h:RGx F s g sp ml mt v X Wn ks P):qbj 0 s 99 qag v P.L:=h.tb.2.2.2
theorem RGx.chF (h:RGx F s0 g sp ml mt v X Wn ks P) (k:Ch T M F' s0 s1) (hF:∀j,j<s0.n→F j→F' j→False) (ht:¬T 40):RGx F s1 g sp ml mt v X Wn ks P:=by
 have hl:∀{t:Tx} {x w:Nat},TxR hdK 144 F s0 t x w→TxR hdK 144 F s1 t x w:=fun {t x w} a=>a.ch k (λb c=>absurd c λc=>hF _ a.lx b c) λhs b c=>absurd c λc=>hF _ (a.wr hs).2.1 b c
 have hst:St F s1 sp P.S:=by
  obtain⟨vr,R,h0,h1,h2,h3,h4,h5⟩:=h.st;exact⟨vr,R,h0,h1,Nat.lt_of_lt_of_le h2 k.1,k.cell h3 h2 λa=>absurd a λa=>hF _ h2 h0 a,h4.ch k λj hj a=>absurd a λa=>hF _ (h4.lt hj).2.1 (h1 j hj) a,h5.ch ht k⟩
 exact⟨h.fg,⟨k.cell h.cell h.lt λa=>absurd a λa=>hF _ h.lt h.fg a,h.tb.2.1,Nat.lt_of_lt_of_le h.lt k.1,h.own.ch k λj hj a=>absurd a λa=>hF _ (h.own.lt hj).2.1 (h.fv j hj) a⟩,h.fv,hst,
  ⟨h.lv.fm,Nat.lt_of_lt_of_le h.lv.lm k.1,h.lv.map.ch h.lv.lm k λa _=>hF _ h.lv.lm h.lv.fm a,λq hq=>hl (h.lv.tx q hq),h.lv.injX,h.lv.injW,h.lv.wml⟩,
  h.fm,Nat.lt_of_lt_of_le h.lm k.1,h.tk.ch h.lm k λa _=>hF _ h.lm h.fm a,h.tkp,h.tml,h.tw⟩
theorem RGx.grow (h:RGx F s0 g sp ml mt v X Wn ks P) (k:Grow s0 s1):RGx F s1 g sp ml mt v X Wn ks P:=h.chF (T:=λ_=>False) (M:=noM) (F':=λ_=>False) k.ch (λ_ _ _ h=>h) (λh=>h)
theorem RGx.mono (h:RGx F s g sp ml mt v X Wn ks P) (hF:∀j,j<s.n→F j→F' j):RGx F' s g sp ml mt v X Wn ks P:=
 ⟨hF _ h.lt h.fg,h.tb,λj hj=>hF j (h.own.lt hj).2.1 (h.fv j hj),h.st.mono hF,h.lv.mono hF,hF _ h.lm h.fm,h.lm,h.tk,h.tkp,h.tml,h.tw⟩
theorem RG.grow (h:RG F s0 g P) (k:Grow s0 s1):RG F s1 g P:=by
 obtain⟨sp,ml,mt,v,X,Wn,ks,h⟩:=h;exact⟨sp,ml,mt,v,X,Wn,ks,h.grow k⟩
theorem RG.chF (h:RG F s0 g P) (k:Ch T M F' s0 s1) (hF:∀j,j<s0.n→F j→F' j→False) (ht:¬T 40):RG F s1 g P:=by
 obtain⟨sp,ml,mt,v,X,Wn,ks,h⟩:=h;exact⟨sp,ml,mt,v,X,Wn,ks,h.chF k hF ht⟩
theorem RG.mono (h:RG F s g P) (hF:∀j,j<s.n→F j→F' j):RG F' s g P:=by
 obtain⟨sp,ml,mt,v,X,Wn,ks,h⟩:=h;exact⟨sp,ml,mt,v,X,Wn,ks,h.mono hF⟩
theorem RGx.setC (h:RGx F s g sp ml mt v X Wn ks P) (c la:Int):RGx F (s.put g (.cells [ptr sp,v, .int .u64 c, .int .i64 la, .map (some ml), .map (some mt)] 85 false)) g sp ml mt v X Wn ks {P with clock:=c,last:=la}:=by
 have k:Ch (λt=>t=85) noM F s (s.put g (.cells [ptr sp,v, .int .u64 c, .int .i64 la, .map (some ml), .map (some mt)] 85 false)):=(Ch.refl (λt=>t=85) noM F s).put h.cell rfl h.fg _
 refine⟨h.fg,⟨by simp,Nat.zero_le _,h.lt,h.own.chT k (by decide)⟩,h.fv,h.st.ch k (by decide) λ_ _ _=>by decide,h.lv.ch k (λ_ _ _=>by decide) λ_ _ _ h=>h.elim,h.fm,h.lm,h.tk.ch h.lm k λ_ h=>h,h.tkp,h.tml,h.tw⟩
theorem RGx.chC (h:RGx F s g sp ml mt v X Wn ks P) (o:CObj):Ch gT qcd F s (s.put g o):=(Ch.refl _ _ _ _).put h.cell (.inl rfl) h.fg _
end
def lvM (X:Int→Nat) (live:List (Int×Tx)):MlG Int:=live.map λq=>(q.1,ptr (X q.1))
def qkf (live:List (Int×Tx)) (X:Int→Nat) (f:Int×Tx→Option Int) (c0:Int) (σ s:CSt) (it ml n:Nat) (c:Int):Prop:=∃D S:MlG Int,n=List.length S∧MIt (Value.int .i64) s it ml (lvM X live) S∧(lvM X live).Perm (D++S)∧Grow σ s∧∀b,b≤c↔b≤c0∧∀p∈D,∀x∈live,x.1=p.1→∀y,f x=some y→b≤y
theorem qkf.start {live:List (Int×Tx)} {X:Int→Nat} {f:Int×Tx→Option Int} {c0:Int} {σ s:CSt} {it ml:Nat} (hi:MIt (Value.int .i64) s it ml (lvM X live) (lvM X live)) (g:Grow σ s):qkf live X f c0 σ s it ml (lvM X live).length c0:=
 ⟨[],_,rfl,hi, .refl _,g,λb=>⟨λh=>⟨h,λ_ h=>by cases h⟩,λh=>h.1⟩⟩
theorem uniq {live:List (Int×Tx)} (h:live.Pairwise λa c=>a.1<c.1) {x q:Int×Tx} (hx:x∈live) (hq:q∈live) (e:x.1=q.1):x=q:=by
 have h1:=qfx h hx;have h2:=qfx h hq;rw [e,h2] at h1;exact(Option.some.inj h1).symm
theorem qj7 {live:List (Int×Tx)} {X:Int→Nat} {f:Int×Tx→Option Int} {c0:Int} {σ s:CSt} {it ml n:Nat} {c:Int} (hnum:live.Pairwise λa c=>a.1<c.1) (h:qkf live X f c0 σ s it ml n c) (hit:σ.n≤it) {E:Env} {x:Ctx} {a:CAct} {d:Option Tmp} {K:CAct→CSt→Prop} {Q:Out→CSt→Prop}
  (hd:(∀b,b≤c↔b≤c0∧∀x∈live,∀y,f x=some y→b≤y)→K (a.put d (.tuple #[.bool false])) s)
  (hs:∀(q:Int×Tx) (o:CObj),q∈live→Grow σ (s.put it o)→qgs (s.put it o) (.pointer (some ⟨it,0,none⟩))=some (.tuple #[.int .i64 q.1,ptr (X q.1)])→
   (∀c',(c'=match f q with|some y=>if y<c then y else c|none=>c)→∃m,m<n∧qkf live X f c0 σ (s.put it o) it ml m c')→K (a.put d (.tuple #[.bool true, .int .i64 q.1,ptr (X q.1)])) (s.put it o)):
  qls E x a d K Q s (qej s (.pointer (some ⟨it,0,none⟩)) false):=by
 obtain⟨D,S,hn,hi,hp,gs,hm⟩:=h;refine qbb hi (λhS=> ?_) (λj hj o' hi' he=> ?_)
 ·subst hS;refine hd λb=> ?_
  rw [hm];refine and_congr_right λ_=>⟨λh x hx y hy=> ?_,λh p hp x hx _ y hy=>h x hx y hy⟩
  have hxp:(x.1,ptr (X x.1))∈D:=by
   have:=hp.mem_iff.1 (List.mem_map.2 ⟨x,hx,rfl⟩);simpa using this
  exact h _ hxp x hx rfl y hy
 ·have hSm:S[j]∈lvM X live:=hp.mem_iff.2 (by simp)
  obtain⟨q,hq,hqe⟩:=List.mem_map.1 hSm;have gs':Grow σ (s.put it o'):=gs.put hit _;have hk:S[j].1=q.1:=by rw [←hqe]
  have hv:S[j].2=ptr (X q.1):=by rw [←hqe]
  rw [hv,hk] at he;rw [hk,hv]
  refine hs q o' hq gs' he λc' hc'=>⟨(S.eraseIdx j).length,by rw [List.length_eraseIdx_of_lt hj];omega,D++ [S[j]],S.eraseIdx j,rfl,hi',hp.trans (by
    rw [List.append_assoc]
    exact List.Perm.append_left D (qbn hj)),gs',λb=> ?_⟩
  have hmin:b≤c'↔b≤c∧∀y,f q=some y→b≤y:=by
   subst hc';cases hf:f q with
   |none=>simp
   |some y=>
    simp only [Option.some.injEq,forall_eq'];split<;>omega
  rw [hmin,hm,and_assoc];refine and_congr_right λ_=>⟨λ⟨h,h'⟩ p hp x hx e y hy=> ?_,λh=>⟨λp hp=>h p (by simp [hp]),λy hy=>h S[j] (by simp) q hq hk.symm y hy⟩⟩
  rcases List.mem_append.1 hp with hp|hp
  ·exact h p hp x hx e y hy
  ·rw [List.mem_singleton] at hp;subst hp;have:=uniq hnum hx hq (by rw [e,hk])
   subst this;exact h' y hy
def qnx (x:Int×Tx):Option Int:=if x.2.snap then none else some (x.2.sp.lo-1)
def qir (x:Int×Tx):Option Int:=if x.2.snap then some x.2.sp.lo else none
theorem zbn {P:PM} {c:Int} (h:∀b,b≤c↔b≤P.clock∧∀x∈P.live,∀y,qnx x=some y→b≤y):c=P.safe:=by
 have hall:∀b,b≤c↔b≤P.safe:=λb=>by
  rw [h,qoa];refine and_congr_right λ_=>⟨λh x hx hs=> ?_,λh x hx y hy=> ?_⟩
  ·have:=h x hx (x.2.sp.lo-1) (by simp [qnx,hs])
   omega
  ·unfold qnx at hy;split at hy
   ·cases hy
   ·rename_i hs;cases hy;have:=h x hx (by simpa using hs)
    omega
 exact Int.le_antisymm ((hall c).1 (Int.le_refl _)) ((hall _).2 (Int.le_refl _))
theorem qvw {P:PM} {c:Int} (h:∀b,b≤c↔b≤P.safe∧∀x∈P.live,∀y,qir x=some y→b≤y):c=P.least:=by
 have hall:∀b,b≤c↔b≤P.least:=λb=>by
  rw [h,qko];refine and_congr_right λ_=>⟨λh x hx hs=>h x hx _ (by simp [qir,hs]),λh x hx y hy=> ?_⟩
  unfold qir at hy;split at hy
  ·rename_i hs;cases hy;exact h x hx (by simpa using hs)
  ·cases hy
 exact Int.le_antisymm ((hall c).1 (Int.le_refl _)) ((hall _).2 (Int.le_refl _))
section
variable {T:TypeId→Prop} {M F F':Nat→Prop} {s s':CSt} {g sp ml mt:Nat} {v:Value} {X Wn:Int→Nat} {ks:List Int} {P:PM}
theorem RGx.lvCh (h:RGx F s g sp ml mt v X Wn ks P) (k:Ch (λt=>t=144) (λj=>j≠mt) F s s') {X' Wn':Int→Nat} {live':List (Int×Tx)} (hlv:Lv hdK 144 F s' ml X' Wn' live') (tw:∀q∈live',q.2.snap=false→Wn' q.1≠mt):RGx F s' g sp ml mt v X' Wn' ks {P with live:=live'}:=
 ⟨h.fg,⟨k.cell h.cell h.lt λ_=>by decide,Nat.zero_le _,Nat.lt_of_lt_of_le h.lt k.1,h.own.chT k (by decide)⟩,h.fv,h.st.ch k (by decide) λ_ _ _=>by decide,hlv,h.fm,Nat.lt_of_lt_of_le h.lm k.1,h.tk.ch h.lm k λ_ h=>h rfl,h.tkp,h.tml,tw⟩
theorem qre {s s':CSt} (k:Ch (λt=>t=144) (λj=>j≠mt) F s s'):Ch gT qcd F s s':=k.mono (λ_ h=> .inr (.inr (.inl h))) (λ_ _=>trivial) λ_ h=>h
theorem RGx.btCh (h:RGx F s g sp ml mt v X Wn ks P) (k:Bt g v s s'):Ch (λt=>t=85∨t=99) noM F s s':=⟨k.1,λj hj hn=>k.2 j hj (λe=>by subst e;exact hn ⟨h.fg, .inl ⟨_,_,_,h.cell, .inl rfl⟩⟩) λe=>hn ⟨h.fv j e,by
 obtain⟨_,_,row,h1⟩:=h.own.lt e
 exact .inl ⟨_,_,_,h1, .inr rfl⟩⟩⟩
theorem qp2 (k:Ch (λt=>t=85∨t=99) noM F s s'):Ch gT qcd F s s':=k.mono (λ_ h=>h.elim .inl λh=> .inr (.inl h)) (λ_ h=>h.elim) λ_ h=>h
theorem RGx.tbCh (h:RGx F s g sp ml mt v X Wn ks P) {v':Value} {L':List Lk} (htb:Tb ⟨ptr sp,P.clock,P.last,ml,mt⟩ 0 g v' s' L') (hv:inF F v') (k:Bt g v s s'):RGx F s' g sp ml mt v' X Wn ks {P with L:=L'}:=by
 have kc:=h.btCh k;exact⟨h.fg,htb,hv,h.st.ch kc (by decide) λ_ _ _=>by decide,h.lv.ch kc (λ_ _ _=>by decide) λ_ _ _ h=>h.elim,h.fm,Nat.lt_of_lt_of_le h.lm kc.1,h.tk.ch h.lm kc λ_ h=>h,h.tkp,h.tml,h.tw⟩
theorem qve (k:Ch stT noM F s s'):Ch gT qcd F s s':=k.mono (λ_ h=>h.elim (λh=> .inr (.inr (.inr (.inl h)))) λh=> .inr (.inr (.inr (.inr h)))) (λ_ h=>h.elim) λ_ h=>h
theorem RGx.stCh (h:RGx F s g sp ml mt v X Wn ks P) {S':Stl} (hst:St F s' sp S') (k:Ch stT noM F s s'):RGx F s' g sp ml mt v X Wn ks {P with S:=S'}:=
 ⟨h.fg,⟨k.cell h.cell h.lt λ_=>by unfold stT;decide,Nat.zero_le _,Nat.lt_of_lt_of_le h.lt k.1,h.own.chT k (by unfold stT;decide)⟩,h.fv,hst,h.lv.ch k (λ_ _ _=>by unfold stT;decide) λ_ _ _ h=>h.elim,h.fm,Nat.lt_of_lt_of_le h.lm k.1,h.tk.ch h.lm k λ_ h=>h,h.tkp,h.tml,h.tw⟩
theorem RGx.tkCh (h:RGx F s g sp ml mt v X Wn ks P) {o:CObj} {ks' tk':List Int} (hm:MpG (Value.int .u64) (s.put mt o) mt (ks'.map λa=>(a, .agg #[]))) (hp:∀a,a∈ks'↔a∈tk'):RGx F (s.put mt o) g sp ml mt v X Wn ks' {P with taken:=tk'}∧Ch (λ_=>False) (λj=>j=mt) F s (s.put mt o):=by
 have k:Ch (λ_=>False) (λj=>j=mt) F s (s.put mt o):=(Ch.refl (λ_=>False) (λj=>j=mt) F s).putMp h.tk rfl h.fm _
 exact⟨⟨h.fg,⟨k.cell h.cell h.lt λ_ h=>h,Nat.zero_le _,Nat.lt_of_lt_of_le h.lt k.1,h.own.chT k λh=>h⟩,h.fv,h.st.ch k (λh=>h) λ_ _ _=>⟨λh=>h,λh=>h⟩,h.lv.ch k (λ_ _ _ h=>h) λj _ _ e=>⟨by rw [e];exact h.tml,λq hq hs=>by rw [e];exact h.tw q hq hs⟩,h.fm,h.lm,hm,hp,h.tml,h.tw⟩,k⟩
theorem gT_tk (k:Ch (λ_=>False) (λj=>j=mt) F s s'):Ch gT qcd F s s':=k.mono (λ_ h=>h.elim) (λ_ _=>trivial) λ_ h=>h
theorem RGx.chMl (h:RGx F s g sp ml mt v X Wn ks P) (o:CObj):Ch (λt=>t=144) (λj=>j≠mt) F s (s.put ml o):=(Ch.refl (λt=>t=144) (λj=>j≠mt) F s).putMp h.lv.map (λe=>h.tml e.symm) h.lv.fm _
theorem qzv {v v':Value} {s:CSt} (h:inF F v) (hF:∀i,s.n≤i→F i) (ho:qb1 v'=qb1 v∨∃j,qb1 v'=some j∧s.n≤j):inF F v':=λj hj=>by
 rcases ho with e|⟨i,e,hi⟩
 ·exact h j (by rw [←e];exact hj)
 ·rw [e] at hj;cases hj;exact hF _ hi
end
section
variable {F:Nat→Prop} {σ:CSt} {g sp ml mt:Nat} {v:Value} {X Wn:Int→Nat} {ks:List Int} {P:PM}
theorem qci (h:RGx F σ g sp ml mt v X Wn ks P) (n:Int) (Q:Out→CSt→Prop)
  (h1:∀t,P.get n=some t→Q (.ret (.tuple #[ptr (X n), .int .i64 0]) false) σ) (h2:P.get n=none→Q (.ret (.tuple #[.pointer none, .int .i64 4]) false) σ):W E1 (.fn 40 #[ptr g, .int .i64 n] none) σ Q:=by
 rw [qap (fn:=Tryz.f40) Tryz.func40 rfl rfl rfl];have hg:=h.cell;have hlk:qbr Tryz.prog σ 82 (.map (some ml)) (.int .i64 n) true=_:=qd2 (P:=Tryz.prog) (key:=Value.int .i64) (kd:= .int .i64) (t:=82) (kt:=3) (et:=73) (k:=n) Tryz.underlying82 (by kernel_rfl) (qbv .i64) (z:= .pointer none) (by kernel_rfl) h.lv.map true
 rw [qh0] at hlk;simp only [if_true] at hlk;have hgm:(P.live.find? λx=>decide (x.1=n)).map (λ_=>ptr (X n))=(P.get n).map λ_=>ptr (X n):=by unfold PM.get;cases P.live.find? λx=>decide (x.1=n)<;>rfl
 rw [hgm] at hlk;unfold ptr at hg hlk h1⊢;cases hgn:P.get n with
 |none=>
  rw [hgn] at hlk;have:=h2 hgn;simp at hlk;simpa [qa0,qa2,qa4,hg,hlk] using this
 |some t=>
  rw [hgn] at hlk;have:=h1 t hgn;simp at hlk;simpa [qa0,qa2,qa4,hg,hlk] using this
theorem qsx (h:RGx F σ g sp ml mt v X Wn ks P) (Q:Out→CSt→Prop) (h1:Q (.ret (.int .u64 P.clock) false) σ):W E1 (.fn 32 #[ptr g] none) σ Q:=by
 rw [qap (fn:=Tryz.f32) Tryz.func32 rfl rfl rfl];have hg:=h.cell;unfold ptr at hg⊢;simpa [qa0,hg] using h1
theorem qxh (h:RG F σ g P) (hok:P.Ok) (b:Int) (hb:0≤b∧b<2^64) (Q:Out→CSt→Prop)
  (h1:∀σ',RG F σ' g (P.tick b).2→Ch gT qcd F σ σ'→Q (.ret (.int .i64 (P.tick b).1) false) σ'):W E1 (.fn 58 #[ptr g, .int .u64 b] none) σ Q:=by
 obtain⟨sp,ml,mt,v,X,Wn,ks,h⟩:=h;rw [qap (fn:=Tryz.f58) Tryz.func58 rfl rfl rfl];have hg:=h.cell;have hc:=hok.clock;have w1:IntKind.u64.wrap (1099511627776-P.clock)=1099511627776-P.clock:=IntWalk.u64_in _ (by omega)
 by_cases e:1099511627776-P.clock<b
 ·have ht:P.tick b=(6,P):=if_pos (by simpa using e)
  have:=h1 σ (by rw [ht];exact⟨sp,ml,mt,v,X,Wn,ks,h⟩) (Ch.refl _ _ _ _)
  rw [ht] at this;unfold ptr at hg⊢;simpa [qa0,hg,w1,e] using this
 ·have ht:P.tick b=(0,{P with clock:=P.clock+b}):=if_neg (by simpa using e)
  have w2:IntKind.u64.wrap (P.clock+b)=P.clock+b:=IntWalk.u64_in _ (by omega)
  have e2:b≤1099511627776-P.clock:=by omega
  have:=h1 _ (by rw [ht];exact⟨sp,ml,mt,v,X,Wn,ks,h.setC (P.clock+b) P.last⟩) (h.chC _)
  rw [ht] at this;unfold ptr at hg this⊢;simpa [qa0,hg,w1,w2,e,e2] using this
theorem qjc (h:RGx F σ g sp ml mt v X Wn ks P) (hok:P.Ok) (Q:Out→CSt→Prop) (h1:∀σ',Grow σ σ'→Q (.ret (.int .u64 P.safe) false) σ'):W E1 (.fn 41 #[ptr g] none) σ Q:=by
 rw [qap (fn:=Tryz.f41) Tryz.func41 rfl rfl rfl];have hg:=h.cell;obtain⟨o,ho,hit⟩:=qb3 (P:=Tryz.prog) (t:=82) Tryz.underlying82 h.lv.map h.lv.lm;unfold ptr at hg;simp [qa0,hg,ho,ptr];have g0:Grow σ (σ.alloc o):=(Grow.refl σ).alloc o;generalize σ.alloc o=s0 at hit g0⊢;refine qak (λn a s=>∃tm c,a=⟨tm,33, [],false⟩∧tm.get 3=some (.int .u64 c)∧tm.get 14=some (.pointer (some ⟨σ.n,0,none⟩))∧qkf P.live X qnx P.clock σ s σ.n ml n c)
  (λout s=>∃tm,out= .code (.exit 0) ⟨tm,33, [],false⟩∧tm.get 3=some (.int .u64 P.safe)∧Grow σ s) ?_ (lvM X P.live).length _ _ ?_ ?_
 ·rintro n a s ⟨tm,c,rfl,e3,e14,hi⟩;have gs:Grow σ s:=by obtain⟨_,_,_,_,_,gs,_⟩:=hi;exact gs
  simp [qa0,e3,e14];refine qj7 hok.nums hi (Nat.le_refl _) (λhd=> ?_) (λq o' hq gs' he hn=> ?_)
  ·have hc:=zbn hd;simp [qa0];exact⟨by rw [←hc];exact e3,gs⟩
  ·have htx:=h.lv.tx q hq;have hxq:=hok.tx q hq;have hxc:=gs'.get htx.cell htx.lx;unfold qfo hdK at hxc;unfold ptr at he;cases hs:q.2.snap with
   |true=>
    rw [hs] at hxc;obtain⟨m,hm,hf⟩:=hn c (by simp [qnx,hs])
    simp [qa0,he,hxc,e3,e14,ptr];exact⟨m,hm,hf⟩
   |false=>
    rw [hs] at hxc;have hlo:=hxq.w hs;have hw:IntKind.u64.wrap (q.2.sp.lo-1)=q.2.sp.lo-1:=IntWalk.u64_in _ (by omega)
    obtain⟨m,hm,hf⟩:=hn _ rfl;simp [qnx,hs] at hf;simp [qa0,he,hxc,e3,e14,ptr,hw,qza];exact⟨m,hm,hf⟩
 ·refine⟨_,P.clock,rfl, ?_⟩;simp;exact qkf.start hit g0
 ·rintro out s ⟨tm,rfl,e3,gs⟩;simpa [qa0,e3] using h1 s gs
theorem qlt (h:RGx F σ g sp ml mt v X Wn ks P) (hok:P.Ok) (Q:Out→CSt→Prop) (h1:∀σ',Grow σ σ'→Q (.ret (.int .u64 P.least) false) σ'):W E1 (.fn 42 #[ptr g] none) σ Q:=by
 rw [qap (fn:=Tryz.f42) Tryz.func42 rfl rfl rfl];simp [qa0,ptr];refine qjc h hok _ λs1 g1=> ?_
 have hr:=h.grow g1;have hg:=hr.cell;obtain⟨o,ho,hit⟩:=qb3 (P:=Tryz.prog) (t:=82) Tryz.underlying82 hr.lv.map hr.lv.lm;unfold ptr at hg;simp [qa0,hg,ho];have g0:Grow σ (s1.alloc o):=g1.alloc o;generalize s1.alloc o=s0 at hit g0⊢;refine qak (λn a s=>∃tm c,a=⟨tm,30, [],false⟩∧tm.get 3=some (.int .u64 c)∧tm.get 12=some (.pointer (some ⟨s1.n,0,none⟩))∧qkf P.live X qir P.safe σ s s1.n ml n c)
  (λout s=>∃tm,out= .code (.exit 0) ⟨tm,30, [],false⟩∧tm.get 3=some (.int .u64 P.least)∧Grow σ s) ?_ (lvM X P.live).length _ _ ?_ ?_
 ·rintro n a s ⟨tm,c,rfl,e3,e12,hi⟩;have gs:Grow σ s:=by obtain⟨_,_,_,_,_,gs,_⟩:=hi;exact gs
  simp [qa0,e3,e12];refine qj7 hok.nums hi g1.n (λhd=> ?_) (λq o' hq gs' he hn=> ?_)
  ·have hc:=qvw hd;simp [qa0];exact⟨by rw [←hc];exact e3,gs⟩
  ·have htx:=h.lv.tx q hq;have hxc:=gs'.get htx.cell htx.lx;unfold qfo hdK at hxc;unfold ptr at he;cases hs:q.2.snap with
   |false=>
    rw [hs] at hxc;obtain⟨m,hm,hf⟩:=hn c (by simp [qir,hs])
    simp [qa0,he,hxc,e3,e12,ptr];exact⟨m,hm,hf⟩
   |true=>
    rw [hs] at hxc;obtain⟨m,hm,hf⟩:=hn _ rfl;simp [qir,hs] at hf;simp [qa0,he,hxc,e3,e12,ptr,qza];exact⟨m,hm,hf⟩
 ·refine⟨_,P.safe,rfl, ?_⟩;simp;exact qkf.start hit g0
 ·rintro out s ⟨tm,rfl,e3,gs⟩;simpa [qa0,e3] using h1 s gs
end
section
variable {F:Nat→Prop} {σ:CSt} {g sp ml mt:Nat} {v:Value} {X Wn:Int→Nat} {ks:List Int} {P:PM}
theorem qlg (h:RGx F σ g sp ml mt v X Wn ks P) (hok:P.Ok) (hla:P.last<2^40) {t:Tx} {x w:Nat} (hx:TxR hdK 144 F σ t x w) (hX:∀q∈P.live,X q.1≠x) (hW:t.snap=false→w≠ml∧w≠mt∧∀q∈P.live,q.2.snap=false→Wn q.1≠w) (Q:Out→CSt→Prop)
  (h1:∀σ',RG F σ' g (P.one t).2→Ch gT qcd F σ σ'→Q (.ret (.tuple #[.int .i64 (P.one t).1.1, .int .i64 (P.one t).1.2]) false) σ'):W E1 (.fn 67 #[ptr g,ptr x] none) σ Q:=by
 rw [qap (fn:=Tryz.f67) Tryz.func67 rfl rfl rfl];have hg:=h.cell;have hln:=qyd (P:=Tryz.prog) Tryz.underlying82 h.lv.map;rw [List.length_map] at hln;have hl0:=hok.last0;have hw:IntKind.i64.wrap (P.last+1)=P.last+1:=IntWalk.i64_in _ (by omega)
 unfold PM.one at h1;by_cases e:P.live.length=16
 ·rw [if_pos e] at h1;have hQ:=h1 σ ⟨sp,ml,mt,v,X,Wn,ks,h⟩ (Ch.refl _ _ _ _);unfold ptr at hg⊢;simpa [qa0,qa2,qa4,hg,hln,e] using hQ
 ·rw [if_neg e] at h1;have e':¬((P.live.length:Int)=16):=by omega
  have hr1:=h.setC P.clock (P.last+1);have hc1:=h.chC (.cells [ptr sp,v, .int .u64 P.clock, .int .i64 (P.last+1), .map (some ml), .map (some mt)] 85 false);have hx1:TxR hdK 144 F (σ.put g (.cells [ptr sp,v, .int .u64 P.clock, .int .i64 (P.last+1), .map (some ml), .map (some mt)] 85 false)) t x w:=hx.ch ((Ch.refl (λt=>t=85) noM F σ).put h.cell rfl h.fg _) (λ_ _=>by decide) λ_ _ _ h=>h
  unfold ptr at hg;simp [qa0,qa2,qa4,hg,hln,e,e',hw,ptr];refine qba (by kernel_rfl) ?_
  simp only [ptr] at hr1 hc1 hx1;generalize σ.put g (.cells [.pointer (some ⟨sp,0,none⟩),v, .int .u64 P.clock, .int .i64 (P.last+1), .map (some ml), .map (some mt)] 85 false)=s1 at hr1 hc1 hx1⊢;obtain⟨o,ho1,ho2⟩:=qct (P:=Tryz.prog) (key:=Value.int .i64) (kd:= .int .i64) (t:=82) (kt:=3) (et:=73) (k:=P.last+1) Tryz.underlying82 (by kernel_rfl) (qbv .i64) hr1.lv.map (ptr x)
  have hlv:=hr1.lv.push (n:=P.last+1) (t:=t) (λq hq=>by have:=(hok.last q hq).2;show q.1≠_;omega) hx1 hX (λhs=>⟨(hW hs).1,(hW hs).2.2⟩) ho2
  have kml:=hr1.chMl o
  have hr2:=hr1.lvCh kml hlv (λq hq hs=>by
   rcases List.mem_append.1 hq with hq|hq
   ·rw [qdd (by have:=(hok.last q hq).2;show q.1≠_;omega)];exact hr1.tw q hq hs
   ·rw [List.mem_singleton] at hq;subst hq
    rw [qdg];exact(hW hs).2.1)
  have hb2:=hr1.cell;have hb3:=hr2.cell;have hQ:=h1 _ ⟨sp,ml,mt,v,_,_,ks,hr2⟩ (hc1.trans (qre kml));unfold ptr at ho1 hb2 hb3;generalize s1.put ml o=s2 at ho1 hb3 hQ;simpa [qa6,qa0,hb2,hb3,ho1] using hQ
theorem qkz (h:RG F σ g P) (hF:∀i,σ.n≤i→F i) (hok:P.Ok) (hla:P.last<2^40) (w:Int) (hw:0≤w∧w<2^63) (Q:Out→CSt→Prop)
  (h1:∀σ',RG F σ' g (P.begin w).2→Ch gT qcd F σ σ'→Q (.ret (.tuple #[.int .i64 (P.begin w).1.1, .int .i64 (P.begin w).1.2]) false) σ'):W E1 (.fn 18 #[ptr g, .int .u64 w] none) σ Q:=by
 have hrg:=h;obtain⟨sp,ml,mt,v,X,Wn,ks,h⟩:=h;rw [qap (fn:=Tryz.f18) Tryz.func18 rfl rfl rfl];have hg:=h.cell;have hck:=hok.clock;have hgn:=h.lt;unfold ptr at hg;by_cases c1:w<1
 ·have e:P.begin w=((0,1),P):=if_pos (.inl c1);have hQ:=h1 σ (by rw [e];exact hrg) (Ch.refl _ _ _ _)
  rw [e] at hQ;simpa [qa0,qa2,qa4,hg,c1,ptr] using hQ
 by_cases c2:1000<w
 ·have e:P.begin w=((0,1),P):=if_pos (.inr c2);have hQ:=h1 σ (by rw [e];exact hrg) (Ch.refl _ _ _ _)
  rw [e] at hQ;simpa [qa0,qa2,qa4,hg,c1,c2,ptr] using hQ
 by_cases c3:1099511627776≤P.clock
 ·have e:P.begin w=((0,6),P):=by unfold PM.begin;rw [if_neg (by omega),if_pos (by omega)]
  have hQ:=h1 σ (by rw [e];exact hrg) (Ch.refl _ _ _ _)
  rw [e] at hQ;simpa [qa0,qa2,qa4,hg,c1,c2,c3,ptr] using hQ
 have e:P.begin w=P.one ⟨false,⟨P.clock+1,min (P.clock+w) (2^40)⟩, []⟩:=by unfold PM.begin;rw [if_neg (by omega),if_neg (by omega)]
 rw [e] at h1;have w1:IntKind.u64.wrap (P.clock+1)=P.clock+1:=IntWalk.u64_in _ (by omega)
 have w2:IntKind.u64.wrap (P.clock+w)=P.clock+w:=IntWalk.u64_in _ (by omega)
 have hne:¬g=σ.n:=by omega
 have hne1:¬g=σ.n+1:=by omega
 have hmin:(if 1099511627776<P.clock+w then 1099511627776 else P.clock+w)=min (P.clock+w) (2^40):=by split<;>omega
 simp [qa0,qa2,qa4,hg,c1,c2,c3,ptr];refine qcv (l:= [0,1,2,3,4,5,6,7,8,9,10,11,12,13,14,15,16,17,18,19,20,21]) (b:= #[0,0,2,6,14,30,0,64,192,448,0,1984,4032,8190,0,32766,65534,131071,262143,262143,1048575,2097151]) (by kernel_rfl) (by kernel_rfl) (by kernel_rfl) ?_
 simp [qa0,qa7,qal,qab,qb9,qa3,qa9,Nat.add_assoc,Nat.testBit_eq_decide_div_mod_eq,hg,w1,w2,qza,qcf Tryz.underlying111,hne,hne1];rw [hmin];obtain⟨z,hz⟩:∃z,z=(σ.alloc (.map #[] 0)).alloc (.cells (qfo hdK ⟨false,⟨P.clock+1,min (P.clock+w) (2^40)⟩, []⟩ (.map (some σ.n))) 144 false):=⟨_,rfl⟩
 have gz:Grow σ z:=by rw [hz];exact((Grow.refl σ).alloc _).alloc _
 have hr:=h.grow gz;have hx:TxR hdK 144 F z ⟨false,⟨P.clock+1,min (P.clock+w) (2^40)⟩, []⟩ (σ.n+1) σ.n:=by
  refine⟨hF _ (by omega),by rw [hz];simp,by rw [hz];simp [wv],λ_=>⟨hF _ (Nat.le_refl _),by rw [hz];simp;omega, [],⟨#[],0,by rw [hz];simp,qdp _ _⟩, .refl _⟩⟩
 have hzg:=hr.cell;unfold qfo hdK at hz;simp only [Bool.false_eq_true,if_false,if_true] at hz;unfold ptr at hzg;rw [←hz];have hlt:∀q∈P.live,X q.1<σ.n:=λq hq=>(h.lv.tx q hq).lx
 have hltw:∀q∈P.live,q.2.snap=false→Wn q.1<σ.n:=λq hq hs=>((h.lv.tx q hq).wr hs).2.1
 have hbg:=λQ=>qlg hr hok hla hx (λq hq=>by have:=hlt q hq;omega) (λ_=>⟨by have:=h.lv.lm;omega,by have:=h.lm;omega,λq hq hs=>by have:=hltw q hq hs;omega⟩) Q
 unfold ptr at hbg;refine hbg _ λs2 hr2 hc2=> ?_
 have hQ:=h1 s2 hr2 (gz.ch.trans hc2);obtain⟨_,_,_,_,_,_,_,hr3⟩:=hr2;generalize hone:P.one ⟨false,⟨P.clock+1,min (P.clock+w) (2^40)⟩, []⟩=on at*;simpa [qa0,qa7,qal,qab,qb9,qa3,qa9,Nat.add_assoc,Nat.testBit_eq_decide_div_mod_eq,w1,w2] using hQ
theorem qmf (h:RG F σ g P) (hF:∀i,σ.n≤i→F i) (hok:P.Ok) (hla:P.last<2^40) (Q:Out→CSt→Prop)
  (h1:∀σ',RG F σ' g P.snapshot.2→Ch gT qcd F σ σ'→Q (.ret (.tuple #[.int .i64 P.snapshot.1.1, .int .i64 P.snapshot.1.2]) false) σ'):W E1 (.fn 44 #[ptr g] none) σ Q:=by
 obtain⟨sp,ml,mt,v,X,Wn,ks,h⟩:=h;rw [qap (fn:=Tryz.f44) Tryz.func44 rfl rfl rfl];have hsf:=λQ=>qjc h hok Q
 unfold ptr at hsf;simp [qa0,ptr];refine hsf _ λs1 g1=> ?_
 have hr1:=h.grow g1;obtain⟨z,hz⟩:∃z,z=s1.alloc (.cells (qfo hdK ⟨true,⟨P.safe,P.safe⟩, []⟩ (.map none)) 144 false):=⟨_,rfl⟩
 have gz:Grow s1 z:=by rw [hz];exact(Grow.refl s1).alloc _
 have hr:=hr1.grow gz;have hx:TxR hdK 144 F z ⟨true,⟨P.safe,P.safe⟩, []⟩ s1.n s1.n:=⟨hF _ g1.n,by rw [hz];simp,by rw [hz];simp [wv],λh=>by cases h⟩
 unfold qfo hdK at hz;simp only [Bool.false_eq_true,if_false,if_true] at hz;have hlt:∀q∈P.live,X q.1<s1.n:=λq hq=>(hr1.lv.tx q hq).lx
 have hbg:=λQ=>qlg hr hok hla hx (λq hq=>by have:=hlt q hq;omega) (λh=>by cases h) Q
 unfold ptr at hbg;simp [qa0];rw [←hz];refine hbg _ λs2 hr2 hc2=> ?_
 have hQ:=h1 s2 hr2 ((g1.trans gz).ch.trans hc2);unfold PM.snapshot at hQ;generalize P.one ⟨true,⟨P.safe,P.safe⟩, []⟩=on at*;simpa [qa0] using hQ
theorem qjr (h:RG F σ g P) (hF:∀i,σ.n≤i→F i) (hok:P.Ok) (hL:P.L.length<2^36) (n:Int) (Q:Out→CSt→Prop)
  (h1:∀σ',RG F σ' g (P.drop n)→Ch gT qcd F σ σ'→Q (.ret (.tuple #[]) false) σ'):W E1 (.fn 84 #[ptr g, .int .i64 n] none) σ Q:=by
 obtain⟨sp,ml,mt,v,X,Wn,ks,h⟩:=h;rw [qap (fn:=Tryz.f84) Tryz.func84 rfl rfl rfl];have hg:=h.cell;obtain⟨o,ho1,ho2,_⟩:=qdo (P:=Tryz.prog) (key:=Value.int .i64) (kd:= .int .i64) (ts:= #[82,3]) (t:=82) (kt:=3) (et:=73) (k:=n) rfl Tryz.underlying82 (by kernel_rfl) (qbv .i64) h.lv.map
 have hlv:=h.lv.del n ho2;have kml:=h.chMl o;have hr1:=h.lvCh kml hlv λq hq hs=>h.tw q (List.mem_filter.1 hq).1 hs
 have hg1:=hr1.cell;unfold ptr at hg hg1;simp [qa0,hg,ho1,ptr];generalize σ.put ml o=s1 at kml hr1 hg1⊢;refine qp4 0 g v _ n s1 hr1.tb hL _ λv' s2 htb2 hob hbt=> ?_
 have hv':inF F v':=λj hj=>h.fv j (by rw [←hob];exact hj)
 have hr2:=hr1.tbCh htb2 hv' hbt;have:=h1 s2 ⟨sp,ml,mt,v',X,Wn,ks,hr2⟩ ((qre kml).trans (qp2 (hr1.btCh hbt)));simpa [qa0] using this
theorem qsp (h:RG F σ g P) (hF:∀i,σ.n≤i→F i) (hok:P.Ok) (hL:P.L.length<2^36) (n:Int) (Q:Out→CSt→Prop)
  (h1:∀σ',RG F σ' g (P.abort n).2→Ch gT qcd F σ σ'→Q (.ret (.int .i64 (P.abort n).1) false) σ'):W E1 (.fn 26 #[ptr g, .int .i64 n] none) σ Q:=by
 have hrg:=h;obtain⟨sp,ml,mt,v,X,Wn,ks,h⟩:=h;rw [qap (fn:=Tryz.f26) Tryz.func26 rfl rfl rfl];have hgt:=λQ=>qci h n Q
 have hdr:=λQ=>qjr hrg hF hok hL n Q
 unfold ptr at hgt hdr;unfold PM.abort at h1;simp [qa0,ptr];refine hgt _ (λt ht=> ?_) λhn=> ?_
 ·rw [ht] at h1;simp [qa0];refine hdr _ λs2 hr2 hc2=> ?_
  simpa [qa0] using h1 s2 hr2 hc2
 ·rw [hn] at h1;simpa [qa0] using h1 σ hrg (Ch.refl _ _ _ _)
end
theorem qoc {T:TypeId→Prop} {M F:Nat→Prop} {s s':CSt} (h:gnone s) (hz:0<s.n) (k:Ch T M F s s') (ht:¬T 0):gnone s':=k.cell h hz λ_=>ht
theorem gT0:¬gT 0:=by unfold gT;decide
theorem gTver:¬gT 40:=by unfold gT;decide
theorem qeg (k:ByteArray) (σ:CSt) (Q:Out→CSt→Prop) (h:Q (.ret (.bool (kOk k)) false) σ):W E1 (.fn 74 #[.string k] none) σ Q:=by
 rw [qap (fn:=Tryz.f74) Tryz.func74 rfl rfl rfl];unfold kOk at h;by_cases e:1≤k.size
 ·have e1:(1:Int)≤k.size:=by omega
  by_cases e2:k.size≤32
  ·have e3:(k.size:Int)≤32:=by omega
   simp [e,e2] at h;simpa [qa0,qa2,qa4,e1,e3] using h
  ·have e3:¬(k.size:Int)≤32:=by omega
   simp [e,e2] at h;simpa [qa0,qa2,qa4,e1,e3] using h
 ·have e1:¬(1:Int)≤k.size:=by omega
  simp [e] at h;simpa [qa0,qa2,qa4,e1] using h
theorem qx5 {s:Sn} (hs:s.lo≤s.hi) {a:Int} (h:a<s.hi):qbi s a=⟨max s.lo (a+1),s.hi⟩∧full (qbi s a)=true:=by
 unfold qbi qd4;rw [if_neg (by omega)]
 have:max s.lo (a+1)≤s.hi:=by omega
 simp only [this,if_true];exact⟨trivial,by simp [full,this]⟩
theorem qxz {s:Sn} {a:Int} (h:s.hi≤a):full (qbi s a)=false:=by
 unfold qbi;rw [if_pos h]
 decide
section
variable {F:Nat→Prop} {σ:CSt} {g sp ml mt:Nat} {v:Value} {X Wn:Int→Nat} {ks:List Int} {P:PM}
theorem qj6 (hok:P.Ok) {n:Int} {t:Tx} (hg:(n,t)∈P.live):∀x∈P.live,x.1=n→x.2=t:=λx hx e=>by rw [uniq hok.nums hx hg e]
theorem gsee_x (h:RGx F σ g sp ml mt v X Wn ks P) (hF:∀i,σ.n≤i→F i) (hn:gnone σ) (hok:P.Ok) (hL:P.L.length<2^36) {n:Int} {t:Tx} (hg:(n,t)∈P.live) (hw:t.snap=false) (vv:Ver) (ha:0≤vv.at_∧vv.at_<2^63) (fr til:ByteArray) (u:Sn) (hgood:vv.at_<t.sp.hi→qqs ⟨n,fr,til,u⟩=true) (Q:Out→CSt→Prop)
  (h1:∀σ',RG F σ' g (P.see n t vv.at_ fr til u).2→((P.see n t vv.at_ fr til u).1=true→∃sp ml mt v ks,RGx F σ' g sp ml mt v X Wn ks (P.see n t vv.at_ fr til u).2)→Ch gT qcd F σ σ'→Q (.ret (.int .i64 (if(P.see n t vv.at_ fr til u).1 then 0 else 7)) false) σ'):
  W E1 (.fn 114 #[ptr g, .int .i64 n,ptr (X n), .agg (qad vv).toArray, .agg (qag ⟨0,fr,til,u⟩).toArray] none) σ Q:=by
 rw [qap (fn:=Tryz.f114) Tryz.func114 rfl rfl rfl];have hgn:=h.lt;have htx:=h.lv.tx _ hg;have hxw:=(hok.tx _ hg).w hw;have hz:0<σ.n:=by omega
 have hsok:t.sp.ok:=by simp only at hxw;unfold Sn.ok;omega
 have g0:Grow σ ((σ.alloc (.cells (qad vv) 40 false)).alloc (.cells (qag ⟨0,fr,til,u⟩) 99 false)):=((Grow.refl σ).alloc _).alloc _;have hc8:((σ.alloc (.cells (qad vv) 40 false)).alloc (.cells (qag ⟨0,fr,til,u⟩) 99 false)).get σ.n=some (.cells (qad vv) 40 false):=by simp
 have hc9:((σ.alloc (.cells (qad vv) 40 false)).alloc (.cells (qag ⟨0,fr,til,u⟩) 99 false)).get (σ.n+1)=some (.cells (qag ⟨0,fr,til,u⟩) 99 false):=by simp
 have hn0:((σ.alloc (.cells (qad vv) 40 false)).alloc (.cells (qag ⟨0,fr,til,u⟩) 99 false)).n=σ.n+2:=by simp
 simp only [qad,qag] at g0 hc8 hc9 hn0;simp [qa0,qad,qag,ptr,Nat.add_assoc];generalize (σ.alloc (.cells [.int .u64 vv.at_, .string vv.val, .bool vv.gone] 40 false)).alloc (.cells [.int .i64 0, .string fr, .string til, .int .u64 u.lo, .int .u64 u.hi] 99 false)=s0 at g0 hc8 hc9 hn0⊢;have hx0:=g0.get htx.cell htx.lx;unfold qfo hdK wv at hx0;rw [hw] at hx0;simp only [Bool.false_eq_true,if_false] at hx0;have gn0:=qar hn hz g0;have hab:=qjp t.sp hsok vv.at_ ha.1 (by omega)
 simp only [encS] at hab;refine qt8 (λout s=>∃tm y,out= .code .normal ⟨tm,35, [],false⟩∧tm.get 0=some (.pointer (some ⟨g,0,none⟩))∧tm.get 1=some (.int .i64 n)∧tm.get 2=some (.pointer (some ⟨X n,0,none⟩))∧tm.get 9=some (.pointer (some ⟨σ.n+1,0,none⟩))∧tm.get 11=some (.pointer (some ⟨y,0,none⟩))∧s.get y=some (.cells (encS (qbi t.sp vv.at_)) 97 false)∧y<s.n∧Grow s0 s) ?_ ?_
 ·refine qo2 (ls:= [[0,1,2,3,4,5,6,7,8], [0,1,2,3,4,5,7,6,8]]) (b:= #[0,1,3,7,0,16,63,0,255]) (by kernel_rfl) (by kernel_rfl) (by kernel_rfl) (by kernel_rfl) ?_
  intro ll hll;simp only [List.mem_cons,List.not_mem_nil,or_false] at hll;rcases hll with rfl|rfl
  ·simp [qa7,qal,qab,qb9,qa3,qa9,Nat.add_assoc,Nat.testBit_eq_decide_div_mod_eq,hx0,hc8];refine hab s0 gn0 (by omega) _ λs1 g1=> ?_
   have hx1:=g1.get hx0 (by have:=htx.lx;simp only at this;omega)
   have hc1:=g1.get hc8 (by omega)
   have gn1:=g1.n;have hne8:¬σ.n=s1.n:=by omega
   have hnex:¬X n=s1.n:=by have:=htx.lx;simp only at this;omega
   simp [qa7,qal,qab,qb9,qa3,qa9,Nat.add_assoc,Nat.testBit_eq_decide_div_mod_eq,hx1,hc1,hne8,hnex];exact⟨rfl,(g1.alloc _).put (by have:=g1.n;omega) _⟩
  ·have g5:Grow s0 (s0.alloc (.cells [.int .u64 0, .int .u64 0] 97 false)):=(Grow.refl s0).alloc _;have hc5:(s0.alloc (.cells [.int .u64 0, .int .u64 0] 97 false)).get s0.n=some (.cells [.int .u64 0, .int .u64 0] 97 false):=by simp
   have hn5:(s0.alloc (.cells [.int .u64 0, .int .u64 0] 97 false)).n=s0.n+1:=by simp
   have hne8:¬σ.n=s0.n:=by omega
   have hnex:¬X n=s0.n:=by have:=htx.lx;simp only at this;omega
   simp [qa7,qal,qab,qb9,qa3,qa9,Nat.add_assoc,Nat.testBit_eq_decide_div_mod_eq,hx0,hc8,hne8,hnex];generalize s0.alloc (.cells [.int .u64 0, .int .u64 0] 97 false)=s5 at g5 hc5 hn5⊢;refine hab s5 (qar gn0 (by omega) g5) (by omega) _ λs1 g1=> ?_
   have hx1:=(g5.trans g1).get hx0 (by have:=htx.lx;simp only at this;omega)
   have hc1:=(g5.trans g1).get hc8 (by omega)
   have hc6:=g1.get hc5 (by omega)
   have gn1:=g1.n;simp [qa7,qal,qab,qb9,qa3,qa9,Nat.add_assoc,Nat.testBit_eq_decide_div_mod_eq,hx1,hc1,hc6];exact⟨rfl,by omega,(g5.trans g1).put (Nat.le_refl _) _⟩
 ·rintro out s ⟨tm,y,rfl,e0,e1,e2,e9,e11,hy,hyn,gs⟩;have h0:RGx (λi=>F i∧i<σ.n) σ g sp ml mt v X Wn ks P:=h.mono λj hj a=>⟨a,hj⟩
  have g0s:=g0.trans gs;have hrs:=h.grow g0s;have hem:=qds (qbi t.sp vv.at_) s;simp only [encS] at hem hy;have hdr:=λQ s' (k:Grow s s')=>qjr ⟨sp,ml,mt,v,X,Wn,ks,hrs.grow k⟩ (λi hi=>hF i (Nat.le_trans (g0s.trans k).n hi)) hok hL n Q
  unfold ptr at hdr;simp [qa0,e0,e1,e2,e9,e11,hy];refine hem _ λs1 g1=> ?_
  by_cases c:t.sp.hi≤vv.at_
  ·have hsee:P.see n t vv.at_ fr til u=(false,P.drop n):=if_pos c;rw [hsee] at h1;have hfu:=qxz c;simp [qa0,e0,e1,e2,e9,e11,hfu];refine hdr _ s1 g1 λs2 hr2 hc2=> ?_
   have:=h1 s2 hr2 (λh=>by cases h) ((g0s.trans g1).ch.trans hc2)
   simpa [qa0] using this
  ·have hsee:P.see n t vv.at_ fr til u=(true,{P.set n ⟨t.snap,⟨max t.sp.lo (vv.at_+1),t.sp.hi⟩,t.wr⟩ with L:=P.L++ [⟨n,fr,til,u⟩]}):=if_neg c
   rw [hsee] at h1;simp only at hxw;obtain⟨hab1,hfu⟩:=qx5 hxw.2.1 (show vv.at_<t.sp.hi by omega)
   have hr1:=h0.grow (g0s.trans g1);have hx1:=(hr1.lv.tx _ hg).cell;have hy1:=g1.get hy hyn;have hc91:=(gs.trans g1).get hc9 (by omega)
   have hset:=hr1.lv.set hg (qj6 hok hg) (u:=⟨t.snap,⟨max t.sp.lo (vv.at_+1),t.sp.hi⟩,t.wr⟩) rfl rfl rfl;have kx:Ch (λt=>t=144) (λj=>j≠mt) (λi=>F i∧i<σ.n) s1 (s1.put (X n) (.cells (qfo hdK ⟨t.snap,⟨max t.sp.lo (vv.at_+1),t.sp.hi⟩,t.wr⟩ (wv t (Wn n))) 144 false)):=(Ch.refl (λt=>t=144) (λj=>j≠mt) (λi=>F i∧i<σ.n) s1).put hx1 rfl ⟨htx.fx,htx.lx⟩ _
   have hr2:=hr1.lvCh kx hset λq hq hs=>by
    obtain⟨r,hr,e⟩:=List.mem_map.1 hq;by_cases e1:r.1=n
    ·rw [if_pos e1] at e;subst e;exact hr1.tw (n,t) hg hw
    ·rw [if_neg e1] at e;subst e;exact hr1.tw r hr hs
   have hxn:X n≠σ.n+1:=by have:=htx.lx;simp only at this;omega
   have hc92:(s1.put (X n) (.cells (qfo hdK ⟨t.snap,⟨max t.sp.lo (vv.at_+1),t.sp.hi⟩,t.wr⟩ (wv t (Wn n))) 144 false)).get (σ.n+1)=_:=(CSt.get_put _ _ _ _).trans ((if_neg (Ne.symm hxn)).trans hc91);simp only [qfo,hdK,wv,hw,Bool.false_eq_true,if_false] at hx1 kx hr2 hc92;rw [hab1] at hy1;have hxn':¬σ.n+1=X n:=Ne.symm hxn;simp [qa0,e0,e1,e2,e9,e11,hfu,hy1,hx1,hc91,hxn'];generalize s1.put (X n) (.cells [.int .i64 0, .int .u64 (max t.sp.lo (vv.at_+1)), .int .u64 t.sp.hi, .map (some (Wn n))] 144 false)=s2 at kx hr2 hc92⊢;have hn9:σ.n≤σ.n+1:=by omega
   have hK:(s2.put (σ.n+1) (.cells [.int .i64 n, .string fr, .string til, .int .u64 u.lo, .int .u64 u.hi] 99 false)).get (σ.n+1)=some (.cells [.int .i64 n, .string fr, .string til, .int .u64 u.lo, .int .u64 u.hi] 99 false):=by simp
   have kσ2:Ch gT qcd F σ s2:=(g0s.trans g1).ch.trans ((qre kx).mono (λ_ h=>h) (λ_ h=>h) λ_ h=>h.1)
   have kσ3:Ch gT qcd F σ (s2.put (σ.n+1) (.cells [.int .i64 n, .string fr, .string til, .int .u64 u.lo, .int .u64 u.hi] 99 false)):=kσ2.new hn9 _
   --the lock's own cell is none of the manager's
   have hr3:RGx F (s2.put (σ.n+1) (.cells [.int .i64 n, .string fr, .string til, .int .u64 u.lo, .int .u64 u.hi] 99 false)) g sp ml mt v X Wn ks (P.set n ⟨t.snap,⟨max t.sp.lo (vv.at_+1),t.sp.hi⟩,t.wr⟩):=by
    rw [hw];exact(hr2.chF (T:=λt=>t=99) (M:=noM) (F':=λi=>i=σ.n+1) ((Ch.refl (λt=>t=99) noM (λi=>i=σ.n+1) s2).put hc92 rfl rfl _) (λj _ a b=>by have:=a.2;omega) (by decide)).mono λj _ a=>a.1
   generalize s2.put (σ.n+1) (.cells [.int .i64 n, .string fr, .string til, .int .u64 u.lo, .int .u64 u.hi] 99 false)=s3 at hK kσ3 hr3⊢;refine qba (by kernel_rfl) ?_
   simp [qa6,qa0,e0,e9,hK];have had:=zbb 0 g v P.L ⟨n,fr,til,u⟩ s3 (Nat.zero_le _) hr3.tb hL;simp only [qag] at had;refine had _ λv4 s4 htb4 hob4 hbt4=> ?_
   have hadd:addK P.L ⟨n,fr,til,u⟩=P.L++ [⟨n,fr,til,u⟩]:=if_pos (hgood (by omega))
   rw [hadd] at htb4;have hr4:=hr3.tbCh htb4 (qzv h.fv (λi hi=>hF i (Nat.le_trans kσ3.1 hi)) hob4) hbt4
   have:=h1 s4 ⟨sp,ml,mt,v4,X,Wn,ks,hr4⟩ (λ_=>⟨sp,ml,mt,v4,ks,hr4⟩) (kσ3.trans (qp2 (hr3.btCh hbt4)))
   simpa [qa6,qa0,e0,e9] using this
theorem zax (h:RGx F σ g sp ml mt v X Wn ks P) (hF:∀i,σ.n≤i→F i) (hn:gnone σ) (hok:P.Ok) (hL:P.L.length<2^36) {n:Int} {t:Tx} (hg:(n,t)∈P.live) (hw:t.snap=false) (vv:Ver) (ha:0≤vv.at_∧vv.at_<2^63) (fr til:ByteArray) (u:Sn) (hgood:vv.at_<t.sp.hi→qqs ⟨n,fr,til,u⟩=true) (Q:Out→CSt→Prop)
  (h1:∀σ',RG F σ' g (P.see n t vv.at_ fr til u).2→Ch gT qcd F σ σ'→Q (.ret (.int .i64 (if(P.see n t vv.at_ fr til u).1 then 0 else 7)) false) σ'):
  W E1 (.fn 114 #[ptr g, .int .i64 n,ptr (X n), .agg (qad vv).toArray, .agg (qag ⟨0,fr,til,u⟩).toArray] none) σ Q:=
 gsee_x h hF hn hok hL hg hw vv ha fr til u hgood Q fun σ' a _ b=>h1 σ' a b
end
theorem kl_ver (v:Ver):KL [.int .u64, .str, .bool] (qad v):=⟨⟨_,rfl⟩,⟨_,rfl⟩,⟨_,rfl⟩,trivial⟩
theorem encV_inj {a b:Ver}:qad a=qad b↔a=b:=by
 constructor
 ·intro h;cases a;cases b;simp [qad] at h;simp [h]
 ·rintro rfl;rfl
theorem qz6 (a b:Ver) (σ:CSt) (x y:Operand):qd5 Tryz.prog σ .eql 40 x y (.agg (qad a).toArray) (.agg (qad b).toArray)= .val (.bool (decide (a=b))) σ∧qd5 Tryz.prog σ .neq 40 x y (.agg (qad a).toArray) (.agg (qad b).toArray)= .val (.bool (!decide (a=b))) σ:=by
 obtain⟨c,h1,h2,h3⟩:=qh7 (P:=Tryz.prog) (f:=2) (t:=40) (ks:= [.int .u64, .str, .bool]) (by kernel_rfl) (by kernel_rfl) (by omega) (by kernel_rfl) (by kernel_rfl) (kl_ver a) (kl_ver b) rfl rfl (σ:=σ) (x:=x) (y:=y)
 have:c=decide (a=b):=by
  rw [encV_inj] at h3;cases c<;>simp_all
 rw [h1,h2,this];exact⟨rfl,rfl⟩
theorem zb7 (a b:Ver) (σ:CSt) (x y:Operand):qd5 Tryz.prog σ .neq 40 x y (.agg (qad a).toArray) (.agg (qad b).toArray)= .val (.bool (!decide (a=b))) σ:=(qz6 a b σ x y).2
theorem equal_ch (l m:List Ver) (v u:Value) (σ:CSt) (hsl:Sl σ 40 3 qad v l) (hsm:Sl σ 40 3 qad u m) (hbig:l.length<2^40) (Q:Out→CSt→Prop)
  (h:∀(σ':CSt),Grow σ σ'→Q (.ret (.bool (decide (l=m))) false) σ'):W E1 (.fn 209 #[v,u] none) σ Q:=by
 rw [qap (fn:=Tryz.f209) Tryz.func209 rfl rfl rfl];by_cases hlen:l.length=m.length
 ·rcases hsl with⟨rfl,rfl⟩|⟨i,off,cap,row,ro,rfl,hg,hin,hrow,hle,hcap⟩
  ·have hm:m= []:=List.eq_nil_of_length_eq_zero hlen.symm;subst hm;have hu:∃p c,u= .slice p 0 c:=by
    rcases hsm with⟨rfl,_⟩|⟨i2,off2,cap2,row2,ro2,rfl,_⟩
    ·exact⟨_,_,rfl⟩
    ·exact⟨_,_,rfl⟩
   obtain⟨p,c,rfl⟩:=hu;have:=h σ (Grow.refl σ);simp [qa0];rw [qeq];simpa [qa0] using this
  rcases hsm with⟨rfl,rfl⟩|⟨i2,off2,cap2,row2,ro2,rfl,hg2,hin2,hrow2,hle2,hcap2⟩
  ·have hl:l= []:=List.eq_nil_of_length_eq_zero hlen;subst hl;have:=h σ (Grow.refl σ);simp [qa0];rw [qeq];simpa [qa0] using this
  simp [qa0,hlen];refine qaj (λn a σ'=>∃tm k,a=⟨tm,26, [],false⟩∧tm.get 0=some (.slice (some ⟨i,off,none⟩) l.length cap)∧tm.get 1=some (.slice (some ⟨i2,off2,none⟩) m.length cap2)∧tm.get 12=some (.int .i64 l.length)∧tm.get 13=some (.int .i64 (k:Nat))∧tm.get 4=some (.bool false)∧k≤l.length∧n=l.length-k∧l.take k=m.take k∧Grow σ σ') ?_ l.length _ _ ?_
  ·rintro n a σ' ⟨tm,k,rfl,h0,h1,h12,h13,h4,hk,hn,htk,hgr⟩;have hgi:=hgr.get hg hin;have hgi2:=hgr.get hg2 hin2;by_cases hlt:k<l.length
   ·have hlt2:k<m.length:=by omega
    have hld:=qam (enc:=qad) (λ_=>rfl) hrow k hlt
    have hl1:=qbe hle k hlt;have hld2:=qam (enc:=qad) (λ_=>rfl) hrow2 k hlt2
    have hl2:=qbe hle2 k hlt2;have hw:=qb7 k (by omega)
    have hneq:=zb7 l[k] m[k];simp [qa0,h0,h1,h12,h13,h4,hlt];refine qba (by kernel_rfl) ?_
    simp [qa6,h0,h1,h12,h13,h4,hlt,hlt2,hgi,hgi2,hld,hld2,hl1,hl2,hneq];by_cases he:l[k]=m[k]
    ·simp [qa0,he,h13,hw];refine⟨_, ?_,h0,h1,h12,k+1,by simp,h4,by omega,rfl, ?_,hgr⟩
     ·omega
     ·rw [List.take_succ_eq_append_getElem hlt,List.take_succ_eq_append_getElem hlt2,htk,he]
    ·have hne:l≠m:=by rintro rfl;exact he rfl
     have:=h σ' hgr;rw [decide_eq_false hne] at this;simpa [qa0,he] using this
   ·have hkl:k=l.length:=by omega
    have he:l=m:=by
     have:=htk
     rwa [List.take_of_length_le (by omega),List.take_of_length_le (by omega)] at this
    have:=h σ' hgr;rw [decide_eq_true he] at this;simpa [qa0,h12,h13,hlt] using this
  ·refine⟨_,0,rfl, ?_⟩;simp [hlen];exact Grow.refl σ
 ·have hu:∀{x:Value} {l:List Ver},Sl σ 40 3 qad x l→∃p c,x= .slice p l.length c:=by
   rintro x l (⟨rfl,rfl⟩|⟨i,off,cap,row,ro,rfl,_⟩)
   ·exact⟨_,_,rfl⟩
   ·exact⟨_,_,rfl⟩
  obtain⟨p,c,rfl⟩:=hu hsl;obtain⟨p',c',rfl⟩:=hu hsm;have hne:l≠m:=by rintro rfl;exact hlen rfl
  have:=h σ (Grow.refl σ);rw [decide_eq_false hne] at this;have hi:¬((l.length:Int)=m.length):=by omega
  simpa [qa0,hi] using this
def qcx:Ver:=⟨0,⟨#[]⟩,false⟩
theorem qid (o:Option Ver):qr2 o= .tuple #[.agg (qad (o.getD qcx)).toArray, .bool o.isSome]:=by cases o<;>rfl
end Go.Sm
namespace Go.Sm
open Go Go.Proofs
theorem qkt {α:Type} (f:α→Value) (l:List α):(l.flatMap λx=> [f x])=l.map f:=by
 induction l with
 |nil=>rfl
 |cons x l ih=>rw [List.flatMap_cons,ih];rfl
namespace Str
def encS (s:ByteArray):List Value:= [.string s]
theorem lenS (s:ByteArray):(encS s).length=1:=rfl
theorem cokS (s:ByteArray):qc9 (encS s)=true:=rfl
theorem sort_ownZ (b:Nat) (l:List ByteArray) (v:Value) (σ:CSt) (hb:b≤σ.n) (hown:qbj b σ 9 encS v l) (hbig:l.length<2^38) (Q:Out→CSt→Prop)
  (h:∀(l':List ByteArray) (σ':CSt),l'.Perm l→(l'.Pairwise λx y=>klt y x=false)→qbj b σ' 9 encS v l'→qbx b σ σ'→(Own b σ 9 encS v l→Own b σ' 9 encS v l')→Q (.ret (.tuple #[]) false) σ'):
  W E1 (.fn 180 #[v] none) σ Q:=by
 have ht:qri l.length (l.flatMap encS)=some ((srtS l).flatMap encS):=by
  unfold qri encS;rw [qkt,qkt,strs_of];rfl
 obtain⟨p,c,σ',rfl,h1,h2,h3,h4⟩:=qku (e:=9) (tr:=qri) lenS ht (qlm l).length_eq (by omega) hb hown
 rw [qj1 (g:=qs2 9 1 qri) rfl rfl (args:= #[.slice p l.length c]) (σ:=σ) (σ':=σ') (v:= .tuple #[]) (show qyb 9 1 qri p l.length σ=_ from h1)]
 exact h _ _ (qlm l) (qrz l) h2 h3 h4
theorem sort_own (b:Nat) (l:List ByteArray) (v:Value) (σ:CSt) (hb:b≤σ.n) (hown:Own b σ 9 encS v l) (hbig:l.length<2^38) (Q:Out→CSt→Prop)
  (h:∀(l':List ByteArray) (σ':CSt),l'.Perm l→(l'.Pairwise λx y=>klt y x=false)→Own b σ' 9 encS v l'→qbx b σ σ'→Q (.ret (.tuple #[]) false) σ'):
  W E1 (.fn 180 #[v] none) σ Q:=sort_ownZ b l v σ hb hown.z hbig Q λl' σ' h1 h2 _ h4 h5=>h l' σ' h1 h2 (h5 hown) h4
end Str
namespace Nt
def ilt (a b:Int):Bool:=decide (a<b)
def encS (s:Int):List Value:= [.int .i64 s]
theorem lenS (s:Int):(encS s).length=1:=rfl
theorem cokS (s:Int):qc9 (encS s)=true:=rfl
theorem sort_own (b:Nat) (l:List Int) (v:Value) (σ:CSt) (hb:b≤σ.n) (hown:Own b σ 3 encS v l) (hbig:l.length<2^38) (Q:Out→CSt→Prop)
  (h:∀(l':List Int) (σ':CSt),l'.Perm l→(l'.Pairwise λx y=>ilt y x=false)→Own b σ' 3 encS v l'→qbx b σ σ'→Q (.ret (.tuple #[]) false) σ'):
  W E1 (.fn 153 #[v] none) σ Q:=by
 have ht:qsr l.length (l.flatMap encS)=some ((srtI l).flatMap encS):=by
  unfold qsr encS;rw [qkt,qkt,ints_of];rfl
 obtain⟨p,c,σ',rfl,h1,h2,h3,h4⟩:=qku (e:=3) (tr:=qsr) lenS ht (qlz l).length_eq (by omega) hb hown.z
 rw [qj1 (g:=qs2 3 1 qsr) rfl rfl (args:= #[.slice p l.length c]) (σ:=σ) (σ':=σ') (v:= .tuple #[]) (show qyb 3 1 qsr p l.length σ=_ from h1)]
 exact h _ _ (qlz l) ((qu2 l).imp fun {a b} h=>by unfold ilt;simpa using h) (h4 hown) h3
end Nt
def ltS (a b:Sn):Bool:=decide (a.lo<b.lo)
def toC (s:Sn):Kr 2 λ_=>true:=⟨s.lo, [.int .u64 s.hi],rfl,rfl,by simp [qae]⟩
theorem qwb (b:Nat) (l:List Sn) (v:Value) (σ:CSt) (hb:b≤σ.n) (hown:qbj b σ 97 encS v l) (hbig:l.length<2^38) (Q:Out→CSt→Prop)
  (h:∀(l':List Sn) (σ':CSt),l'.Perm l→(l'.Pairwise λx y=>ltS y x=false)→qbj b σ' 97 encS v l'→qbx b σ σ'→Q (.ret (.tuple #[]) false) σ'):
  W E1 (.fn 190 #[v,(.func (.func 191) #[] #[])] none) σ Q:=by
 obtain⟨l',a1,a2,a3⟩:=trK_of (enc:=encS) (key:=Sn.lo) toC (λ_=>rfl) (λ_=>rfl) cmpC l
 obtain⟨p,c,σ',rfl,h1,h2,h3,h4⟩:=qku (e:=97) (tr:=trK cfC) lenS a1 a2.length_eq (by omega) hb hown
 rw [qj1 (g:=qxq 191 97 2 (trK cfC)) rfl rfl (σ':=σ') (v:= .tuple #[]) (by
  show(if 191=191 then qyb 97 2 (trK cfC) p l.length σ else none)=_
  rw [if_pos rfl];exact h1)]
 exact h _ _ a2 (a3.imp fun {a b} h=>by unfold ltS;simpa using h) h2 h3
def toD (x:{v:Ver//0≤v.at_∧v.at_≤2^40}):Kr 3 B40:=⟨x.1.at_, [.string x.1.val, .bool x.1.gone],by unfold B40;simpa using x.2,rfl,by simp [qae]⟩
theorem qyj (b:Nat) (l:List Ver) (hl:∀v∈l,0≤v.at_∧v.at_≤2^40) (v:Value) (σ:CSt) (hb:b≤σ.n) (hown:qbj b σ 40 qad v l) (hbig:l.length<2^38) (Q:Out→CSt→Prop)
  (h:∀(l':List Ver) (σ':CSt),l'.Perm l→(l'.Pairwise λx y=>x.at_≤y.at_)→qbj b σ' 40 qad v l'→qbx b σ σ'→Q (.ret (.tuple #[]) false) σ'):
  W E1 (.fn 207 #[v,(.func (.func 208) #[] #[])] none) σ Q:=by
 obtain⟨l',a1,a2,a3⟩:=trK_of (enc:=λx:{v:Ver//0≤v.at_∧v.at_≤2^40}=>qad x.1) (key:=λx=>x.1.at_) toD (λ_=>rfl) (λ_=>rfl) cmpD (l.attachWith _ hl)
 have e:∀m:List {v:Ver//0≤v.at_∧v.at_≤2^40},(m.flatMap λx=>qad x.1)=(m.map (·.1)).flatMap qad:=λm=>by rw [List.flatMap_map]
 rw [e,e,List.attachWith_map_subtype_val,List.length_attachWith] at a1;have a2':(l'.map (·.1)).Perm l:=by
  have:=a2.map (·.1)
  rwa [List.attachWith_map_subtype_val] at this
 obtain⟨p,c,σ',rfl,h1,h2,h3,h4⟩:=qku (e:=40) (k:=3) (tr:=trK cfD) (enc:=qad) (λ_=>rfl) a1 a2'.length_eq (by omega) hb hown
 rw [qj1 (g:=qxq 208 40 3 (trK cfD)) rfl rfl (σ':=σ') (v:= .tuple #[]) (by
  show(if 208=208 then qyb 40 3 (trK cfD) p l.length σ else none)=_
  rw [if_pos rfl];exact h1)]
 exact h _ _ a2' (by rw [List.pairwise_map];exact a3) h2 h3
end Go.Sm
namespace Go.Sm
open Go Go.Proofs
set_option maxRecDepth 100000
set_option maxHeartbeats 4000000
theorem qy0 (g:FuncId) (caps:Array Value) (hext:∀args s,qcr E1 (.func (.func g) #[] caps) args s=none) (p:Sn→Bool) (Ok:CSt→Prop) (hog:∀s s',Ok s→Grow s s'→Ok s') (l:List Sn) (v:Value) (σ:CSt) (hsl:Sl σ 97 2 encS v l) (hok:Ok σ)
  (hpred:∀x∈l,∀s Q,Ok s→(∀s',Grow s s'→Q (.ret (.bool (p x)) false) s')→W E1 (.fn g (#[.agg (encS x).toArray]++caps) none) s Q) (hbig:l.length<2^40) (Q:Out→CSt→Prop)
  (h:∀(r:Int) (σ':CSt),((r= -1∧∀x∈l,p x=false)∨∃k:Nat,r=k∧∃hk:k<l.length,p l[k]=true∧∀i (hi:i<l.length),i<k→p l[i]=false)→Grow σ σ'→Q (.ret (.int .i64 r) false) σ'):W E1 (.fn 239 #[v, .func (.func g) #[] caps] none) σ Q:=by
 rw [qap (fn:=Tryz.f239) Tryz.func239 rfl rfl rfl];obtain⟨pp,c,rfl⟩:=hsl.form;simp [qa0];refine qaj (λn a σ'=>∃tm j,a=⟨tm,19, [],false⟩∧tm.get 0=some (.slice pp l.length c)∧tm.get 1=some (.func (.func g) #[] caps)∧tm.get 7=some (.int .i64 l.length)∧tm.get 8=some (.int .i64 (j:Nat))∧j≤l.length∧n=l.length-j∧(∀i (h:i<l.length),i<j→p l[i]=false)∧Grow σ σ') ?_ l.length _ _ ?_
 ·rintro n a σ1 ⟨tm,j,rfl,e0,e1,e7,e8,hj,hn,hno,hgr⟩;by_cases hjl:j<l.length
  ·obtain⟨i,off,row,ro,rfl,hg,hin,hrow,hle⟩:=(hsl.grow hgr).at hjl;have hld:=qam (enc:=encS) lenS hrow j hjl;have hl1:=qbe hle j hjl;have hw2:=qb7 j (by omega)
   simp [qa0,e0,e1,e7,e8,hjl,hg,hld,hl1,hext];have hpr:=λQ=>hpred l[j] (List.getElem_mem hjl) σ1 Q (hog _ _ hok hgr)
   try simp at hpr
   refine hpr _ fun σ2 g2=> ?_
   cases hat:p l[j] with
   |true=>
    have:=h j σ2 (.inr ⟨j,rfl,hjl,hat,hno⟩) (hgr.trans g2);simpa [qa0,hat] using this
   |false=>
    simp [qa0,hat,e0,e1,e7,e8,hw2];refine⟨_, ?_,j+1,rfl,by omega,rfl,λi h hi=> ?_,hgr.trans g2⟩
    ·omega
    ·by_cases e:i=j
     ·subst e;exact hat
     ·exact hno i h (by omega)
  ·have hjl':j=l.length:=by omega
   have:=h (-1) σ1 (.inl ⟨rfl,λx hx=>by
    obtain⟨i,hi,rfl⟩:=List.mem_iff_getElem.1 hx
    exact hno i hi (by omega)⟩) hgr
   simpa [qa0,e0,e1,e7,e8,hjl] using this
 ·refine⟨_,0,rfl, ?_⟩;simp;exact Grow.refl σ
theorem qta (g:FuncId) (caps:Array Value) (hext:∀args s,qcr E1 (.func (.func g) #[] caps) args s=none) (p:Sn→Bool) (Ok:CSt→Prop) (b:Nat) (l:List Sn) (v:Value) (σ:CSt) (hog:∀s s',Ok s→qd3 v s s'→Ok s') (hown:qbj b σ 97 encS v l) (hok:Ok σ)
  (hpred:∀x∈l,∀s Q,Ok s→(∀s',Grow s s'→Q (.ret (.bool (p x)) false) s')→W E1 (.fn g (#[.agg (encS x).toArray]++caps) none) s Q) (hbig:l.length<2^38) (Q:Out→CSt→Prop)
  (h:∀(v':Value) (σ':CSt),qbj b σ' 97 encS v' (l.filter λx=> !p x)→(qb1 v'=qb1 v)→qd3 v σ σ'→Q (.ret v' false) σ'):W E1 (.fn 187 #[v, .func (.func g) #[] caps] none) σ Q:=by
 rw [qap (fn:=Tryz.f187) Tryz.func187 rfl rfl rfl];obtain⟨pp,c,rfl⟩:=(hown.sl (sz:=2) lenS).form;simp [qa0];refine qy0 g caps hext p Ok (λs s' h1 h2=>hog s s' h1 h2.butV) l _ σ (hown.sl lenS) hok hpred (by omega) _ λr σ1 hr g1=> ?_
 rcases hr with⟨rfl,hall⟩|⟨k,rfl,hk,hpk,hno⟩
 ·have hf:(l.filter λx=> !p x)=l:=List.filter_eq_self.2 λx hx=>by simp [hall x hx]
  have:=h _ σ1 (by rw [hf];exact hown.grow g1) rfl g1.butV
  simpa [qa0] using this
 ·have hk1:¬((k:Nat):Int)= -1:=by omega
  have hwk:=qb7 k (by omega)
  rcases hown with⟨h0,h1⟩|⟨i0,cap,zs,h0,hbi,hin,hg0,hzs,hcap⟩
  ·rw [h1] at hk;simp at hk
  injection h0 with h0 _ h00
  subst h0;subst h00;have hcap:c=qa1:=by
   rcases hcap with hc|⟨hc,_⟩
   ·exact hc
   ·rw [hc] at hk;simp at hk
  subst hcap;have hobj:qb1 (.slice (some ⟨i0,0,none⟩) l.length qa1)=some i0:=rfl;simp [qa0,hk1,hwk];refine qak (λn a s=>∃(tm:Tr Value) (i j:Nat) (d:List Sn),a=⟨tm,42, [],false⟩∧tm.get 0=some (.slice (some ⟨i0,0,none⟩) l.length qa1)∧tm.get 1=some (.func (.func g) #[] caps)∧tm.get 5=some (.int .i64 (i:Nat))∧tm.get 6=some (.int .i64 (j:Nat))∧j≤l.length∧n=l.length-j∧d.length=l.length∧d.take i=((l.take j).filter λx=> !p x)∧i=((l.take j).filter λx=> !p x).length∧d.drop j=l.drop j∧i<j∧s.get i0=some (.cells (d.flatMap encS++zs) 97 false)∧qd3 (.slice (some ⟨i0,0,none⟩) l.length qa1) σ s)
   (λo s=>∃(tm:Tr Value) (i:Nat) (d:List Sn),o= .code (.exit 0) ⟨tm,42, [],false⟩∧tm.get 0=some (.slice (some ⟨i0,0,none⟩) l.length qa1)∧tm.get 5=some (.int .i64 (i:Nat))∧d.length=l.length∧d.take i=(l.filter λx=> !p x)∧i=(l.filter λx=> !p x).length∧i<l.length∧s.get i0=some (.cells (d.flatMap encS++zs) 97 false)∧qd3 (.slice (some ⟨i0,0,none⟩) l.length qa1) σ s) ?_ (l.length-(k+1)) _ _ ?_ ?_
  ·rintro n a s ⟨tm,i,j,d,rfl,e0,e1,e5,e6,hj,hn,hd,ht,hi,hdr,hij,hgs,hbs⟩;by_cases hjl:j<l.length
   ·have hjl':(j:Int)<l.length:=by omega
    have hjd:j<d.length:=by omega
    have hdj:=qh9 hjl hd hdr;have hrow:=rowZ lenS d zs;have hrl:(d.flatMap encS++zs).length=d.length*2+zs.length:=by rw [List.length_append,qa5 encS lenS]
    have hld:=qam (enc:=encS) lenS hrow j hjd;rw [Nat.zero_add,hdj] at hld;have hset:=λx=>qin lenS d i x (by omega) zs
    have hw6:=qb7 j (by omega)
    have hw5:=qb7 i (by omega)
    have hil:i<l.length:=by omega
    have hsn:=hbs.1;generalize hrw:d.flatMap encS++zs=row at hgs hrow hrl hld hset;have hle1:j*2+2≤row.length:=by omega
    have hle2:i*2+2≤row.length:=by omega
    have hne:¬i0=s.n:=by omega
    have hgw:Grow s ((s.alloc (.cells [.int .u64 0, .int .u64 0] 97 false)).put s.n (.cells (encS l[j]) 97 false)):=((Grow.refl s).alloc _).put (Nat.le_refl _) _;have hcw:((s.alloc (.cells [.int .u64 0, .int .u64 0] 97 false)).put s.n (.cells (encS l[j]) 97 false)).get s.n=some (.cells (encS l[j]) 97 false):=by simp
    have htk:List.take 2 (encS l[j])=encS l[j]:=List.take_of_length_le (by rw [lenS];exact Nat.le_refl _)
    have hlen2:(encS l[j]).length=2:=lenS _;have hcok2:qc9 (encS l[j])=true:=cokS _;have hnw:((s.alloc (.cells [.int .u64 0, .int .u64 0] 97 false)).put s.n (.cells (encS l[j]) 97 false)).n=s.n+1:=by simp
    simp [qa0,e0,e1,e5,e6,hjl,hjl',hgs,hld,hle1,hext,htk,hlen2,hcok2];generalize (s.alloc (.cells [.int .u64 0, .int .u64 0] 97 false)).put s.n (.cells (encS l[j]) 97 false)=s1 at hgw hcw hnw⊢;have hpr:=λQ=>hpred l[j] (List.getElem_mem hjl) s1 Q (hog _ _ hok (hbs.trans hgw.butV))
    try simp at hpr
    refine hpr _ λs2 g2=> ?_
    have g02:=hgw.trans g2;have hgs2:=g02.get hgs (by omega)
    have hcw2:=g2.get hcw (by omega)
    have hb2:=hbs.trans g02.butV;cases hp:p l[j] with
    |true=>
     obtain⟨k1,k2,k3⟩:=qc1 hjl ht hi hdr hp;simp [qa0,e0,e1,e5,e6,hw6];exact⟨n-1,by omega,i,rfl,j+1,rfl,by omega,by omega,d,hd,k1,k2,k3,by omega,by rw [hrw];exact hgs2,hb2⟩
    |false=>
     obtain⟨k0,k1,k2,k3⟩:=qc0 hjl hd ht hi hdr (by omega) hp
     have hset2:=hset l[j];have hil':(i:Int)<l.length:=by omega
     simp [qa0,e0,e1,e5,e6,hw5,hw6,hil,hil',hgs2,hcw2,htk,hlen2,hcok2,hle2];exact⟨n-1,by omega,i+1,rfl,j+1,rfl,by omega,by omega,d.set i l[j],k0,k1,k2,k3,by omega,by rw [←hset2,List.append_assoc],hb2.putV hobj _⟩
   ·have hjl':¬(j:Int)<l.length:=by omega
    have hje:j=l.length:=by omega
    rw [hje,List.take_length] at ht hi;simp [qa0,e0,e1,e5,e6,hjl,hjl'];exact⟨i,rfl,d,hd,ht,hi,by omega,hgs,hbs⟩
  ·have hft:=qfc hk hno hpk;refine⟨_,k,k+1,l,rfl, ?_⟩;simp;refine⟨by omega,by rw [hft],by rw [hft];simp;omega, ?_, ?_⟩
   ·exact g1.get hg0 hin
   ·exact g1.butV
  ·rintro o s ⟨tm,i,d,rfl,e0,e5,hd,ht,hi,hil,hgs,hbs⟩;have hzl:((List.replicate (l.length-i) ([.int .u64 0, .int .u64 0]:List Value)).flatten).length=(l.length-i)*2:=by
    rw [List.length_flatten];simp
   have hzc:qc9 ((List.replicate (l.length-i) ([.int .u64 0, .int .u64 0]:List Value)).flatten)=true:=qho _ _ rfl;have hrl:(d.flatMap encS++zs).length=d.length*2+zs.length:=by rw [List.length_append,qa5 encS lenS]
   have hcl:=qp7 lenS d i (by omega) zs ((List.replicate (l.length-i) ([.int .u64 0, .int .u64 0]:List Value)).flatten) (by rw [hzl,hd])
   have hst:st (d.flatMap encS++zs) (i*2) ((List.replicate (l.length-i) ([.int .u64 0, .int .u64 0]:List Value)).flatten)=some ((d.take i).flatMap encS++((List.replicate (l.length-i) ([.int .u64 0, .int .u64 0]:List Value)).flatten++zs)):=by
    rw [←hcl];unfold st;rw [if_pos (by rw [hzl,hrl,hd];omega)]
   generalize hrw:d.flatMap encS++zs=row at hgs hrl hcl hst;have hil':¬l.length-i=0:=by omega
   have hi2:i≤l.length:=by omega
   have hle3:l.length*2≤row.length:=by omega
   have hle4:i*2≤row.length:=by omega
   simp [qa0,e0,e5,qb5,qdn,qgy,qiz,hgs,hi2,hil',hst,hle3,hle4,-qi0];rw [ht,hi];refine h _ _ (.inr ⟨i0,qa1,_,rfl,hbi,Nat.lt_of_lt_of_le hin hbs.1,by rw [CSt.get_put,if_pos rfl], ?_, .inl rfl⟩) rfl (hbs.putV hobj _)
   rw [qcb,hzs,←hi,hzc];rfl
theorem row_hi (L:List Sn) (m:Nat) (h:m<L.length) (x:Int):(L.flatMap encS).take (m*2+1)++ .int .u64 x::(L.flatMap encS).drop (m*2+1+1)=(L.set m ⟨L[m].lo,x⟩).flatMap encS:=by
 have e:=qoz encS lenS L m ⟨L[m].lo,x⟩ h;have hr:=qa5 encS lenS L;have hc:=qb2 (enc:=encS) lenS (l:=L) (row:=L.flatMap encS) (off:=0) (by rw [List.drop_zero,List.take_of_length_le (by omega)]) m 0 h (by omega)
 rw [←e];rw [Nat.zero_add,Nat.add_zero] at hc;simp only [encS] at hc;have hlt:m*2<(L.flatMap encS).length:=by omega
 rw [List.take_succ_eq_append_getElem hlt];have:(L.flatMap encS)[m*2]= .int .u64 L[m].lo:=by
  rw [List.getElem?_eq_getElem hlt] at hc;simpa using hc
 rw [this];simp [encS]
theorem push_set (L:List Sn) (m:Nat) (hm:L.length=m+1) (s:Sn) (hc:s.lo≤(L[m]'(by omega)).hi∨s.lo-1=(L[m]'(by omega)).hi):qke L s=L.set m ⟨(L[m]'(by omega)).lo,max (L[m]'(by omega)).hi s.hi⟩:=by
 have hl:m<L.length:=by omega
 have hlast:L.getLast? =some L[m]:=by
  rw [List.getLast?_eq_getElem?,show L.length-1=m by omega,List.getElem?_eq_getElem hl]
 unfold qke;rw [hlast];simp only;rw [if_pos hc,List.dropLast_eq_take,List.set_eq_take_append_cons_drop,if_pos hl,show L.length-1=m by omega,List.drop_of_length_le (by omega)]
theorem qnz (l:List Sn) (hok:∀s∈l,s.ok) (v:Value) (σ:CSt) (hsl:Sl σ 97 2 encS v l) (hbig:l.length<2^36) (Q:Out→CSt→Prop)
  (h:∀(v':Value) (r:List Sn) (σ':CSt),IsOf l r→(∀s∈r,s.ok)→r.length≤l.length→Own σ.n σ' 97 encS v' r→Grow σ σ'→Q (.ret v' false) σ'):W E1 (.fn 109 #[v] none) σ Q:=by
 rw [qap (fn:=Tryz.f109) Tryz.func109 rfl rfl rfl];simp [qa0];refine clone_31 l v σ hsl (by omega) _ λv1 σ1 ho1 g1=> ?_
 simp [qa0];refine qta 189 #[] (λargs s=>qef rfl) (λs=> !full s) (λ_=>True) σ.n l v1 σ1 (λ_ _ _ _=>trivial) ho1.z trivial (λx hx s Q _ hq=> ?_) (by omega) _ λv2 σ2 ho2 hob g2=> ?_
 ·simp only [Array.append_empty];exact qds x s Q hq
 simp only [Bool.not_not] at ho2;simp [qa0];have gn1:=g1.n;have gn2:=g2.1
 have hG2:Grow σ σ2:=⟨by omega,λj hj=>by
  rw [g2.2 j (by omega) (λe=>by
   rcases ho1 with⟨h1,_⟩|⟨i,cap,h1,hbi,_⟩
   ·rw [h1] at e;cases e
   ·rw [h1] at e;cases e;omega)]
  exact g1.old j hj⟩
 refine qwb σ.n _ v2 σ2 (by omega) ho2 (by have:=List.length_filter_le (λx=>full x) l;omega) _ λl3 σ3 hp3 hs3 ho3 g3=> ?_
 have hfl:=List.length_filter_le full l;have hp3':l3.Perm (l.filter full):=hp3;have hl3:l3.length≤l.length:=by rw [hp3'.length_eq];exact hfl
 have hG3:Grow σ σ3:=⟨by have:=g3.1;omega,λj hj=>by rw [g3.2 j hj];exact hG2.old j hj⟩
 have hfull:∀s∈l3,s.lo≤s.hi:=λs hs=>by
  have:=(List.mem_filter.1 (hp3'.subset hs)).2;simpa [full] using this
 have hok3:∀s∈l3,s.ok:=λs hs=>hok s (List.mem_filter.1 (hp3'.subset hs)).1
 have hpw:l3.Pairwise λa b=>a.lo≤b.lo:=hs3.imp fun {a b} hab=>by simpa [ltS] using hab
 have hmem:∀t,mem l3 t↔mem l t:=λt=>(mem_perm hp3').trans qge
 have hsl3:=ho3.sl (sz:=2) lenS;clear hs3 hp3 hp3' ho2 ho1 g2 hob hfl ho3;obtain⟨p,c,rfl⟩:=hsl3.form;simp [qa0];refine qaj (λn a s=>∃tm j vo,a=⟨tm,65, [],false⟩∧tm.get 12=some (.slice p l3.length c)∧tm.get 13=some (.int .i64 l3.length)∧tm.get 14=some (.int .i64 (j:Nat))∧tm.get 3=some vo∧j≤l3.length∧n=l3.length-j∧Own σ3.n s 97 encS vo (qck (l3.take j))∧Grow σ3 s) ?_ l3.length _ _ ?_
 ·rintro n a s ⟨tm,j,vo,rfl,e12,e13,e14,e3,hj,hn,hov,gs⟩;obtain⟨po,co,rfl⟩:=(hov.sl (sz:=2) lenS).form;by_cases hjl:j<l3.length
  ·obtain⟨i,off,row,ro,rfl,hg,hin,hrow,hle⟩:=(hsl3.grow gs).at hjl;have hld:=qam (enc:=encS) lenS hrow j hjl;have hl1:=qbe hle j hjl;have hw2:=qb7 j (by omega)
   have hjl':(j:Int)<l3.length:=by omega
   have hg5:Grow s ((s.alloc (.cells [.int .u64 0, .int .u64 0] 97 false)).put s.n (.cells (encS l3[j]) 97 false)):=((Grow.refl s).alloc _).put (Nat.le_refl _) _;have hc5:((s.alloc (.cells [.int .u64 0, .int .u64 0] 97 false)).put s.n (.cells (encS l3[j]) 97 false)).get s.n=some (.cells (encS l3[j]) 97 false):=by simp
   have hn5:((s.alloc (.cells [.int .u64 0, .int .u64 0] 97 false)).put s.n (.cells (encS l3[j]) 97 false)).n=s.n+1:=by simp
   simp only [encS] at hg5 hc5 hn5;simp [qa0,e12,e13,e14,e3,hjl,hjl',hg,hld,hl1];simp [qa0,encS,e12,e13,e14,e3];generalize (s.alloc (.cells [.int .u64 0, .int .u64 0] 97 false)).put s.n (.cells [.int .u64 l3[j].lo, .int .u64 l3[j].hi] 97 false)=s1 at hg5 hc5 hn5⊢;have gs1:=gs.trans hg5;have hov1:=hov.grow hg5;have hjs:qck (l3.take (j+1))=qke (qck (l3.take j)) l3[j]:=by rw [List.take_succ_eq_append_getElem hjl,qnj]
   have hjl2:=qqw (l3.take j);rw [List.length_take] at hjl2;refine qba (by kernel_rfl) ?_
   have happ:∃p9 c9 s9,qas Tryz.prog (s1.alloc (.cells (encS l3[j]) 97 false)) #[199,199] (.slice po (qck (l3.take j)).length co) (.slice (some ⟨s1.n,0,none⟩) 1 1)=some (.slice p9 ((qck (l3.take j)).length+1) c9,s9)∧Own σ3.n s9 97 encS (.slice p9 ((qck (l3.take j)).length+1) c9) (qck (l3.take j)++ [l3[j]])∧Grow σ3 s9:=by
    have hga:Grow s1 (s1.alloc (.cells (encS l3[j]) 97 false)):=(Grow.refl s1).alloc _;obtain⟨v9,s9,a1,a2,a3,_,_⟩:=qay (P:=Tryz.prog) (ts:= #[199,199]) (e:=97) (sz:=2) (enc:=encS) (l:=qck (l3.take j)) (m:= [l3[j]]) (b:=σ3.n) ef199 (by simp) lenS cokS rfl (by decide) (by decide) rfl (σ:=s1.alloc (.cells (encS l3[j]) 97 false))
     (hov1.grow hga) (by have:=gs1.n;simp;omega) (Sl.all (l:= [l3[j]]) (i:=s1.n) (cap:=1) (ro:=false) lenS (by simp) (by simp) (.inr ⟨by simp,by simp [qa1]⟩)) (by show(_+1)*16≤_;omega) (by omega)
    obtain⟨p9,c9,rfl⟩:=(a2.sl (sz:=2) lenS).form;rw [List.length_append] at a1 a2;exact⟨p9,c9,s9,a1,a2,⟨by have:=a3.1;simp at this;have:=gs1.n;omega,λi hi=>by rw [a3.2 i hi,hga.old i (by have:=gs1.n;omega),gs1.old i hi]⟩⟩
   obtain⟨p9,c9,s9,a1,a2,a3⟩:=happ;simp only [encS] at a1;by_cases he:qck (l3.take j)= []
   ·rw [he] at a1 a2;have e5:qck (l3.take (j+1))= [l3[j]]:=by rw [hjs,he];rfl
    simp only [List.length_nil,List.nil_append,Nat.zero_add] at a1 a2;simp [qa6,qby,qa4,qa0,e12,e13,e14,e3,he,hc5,hw2,a1];exact⟨l3.length-(j+1),by omega,j+1,rfl,by omega,rfl,by rw [e5];exact a2,a3⟩
   ·obtain⟨m,hm⟩:∃m,(qck (l3.take j)).length=m+1:=⟨(qck (l3.take j)).length-1,by have:=List.length_pos_iff.2 he;omega⟩
    have hml:m<(qck (l3.take j)).length:=by omega
    obtain⟨z,hz⟩:∃z,z=(qck (l3.take j))[m]:=⟨_,rfl⟩
    have hlast:(qck (l3.take j)).getLast? =some z:=by rw [List.getLast?_eq_getElem?,hm,hz];simp [List.getElem?_eq_getElem hml]
    rcases hov1 with⟨h1,h2⟩|⟨i2,cap2,h1,hb2,hin2,hg2,hcap2⟩
    ·exact absurd h2 he
    cases h1;have hrow2:=qa5 encS lenS (qck (l3.take j));have hce:=qb2 (enc:=encS) lenS (l:=qck (l3.take j)) (row:=(qck (l3.take j)).flatMap encS) (off:=0) (by rw [List.drop_zero,List.take_of_length_le (by omega)]) m 1 hml (by omega)
    rw [Nat.zero_add,←hz] at hce;simp only [encS] at hce;have hwm:IntKind.i64.wrap ((m:Int)+1-1)=(m:Int):=by rw [IntWalk.i64_in _ (by omega)];omega
    have hwm':IntKind.i64.wrap (m:Int)=(m:Int):=IntWalk.i64_in _ (by omega)
    have hm2:(m:Int)<(m:Int)+1:=by omega
    have hle2:m*2+1+1≤((qck (l3.take j)).flatMap encS).length:=by omega
    rw [hm] at a1 a2 e3;generalize hrw:(qck (l3.take j)).flatMap encS=row2 at hg2 hce hle2;have hfin:∀x,x=max z.hi l3[j].hi→(l3[j].lo≤z.hi∨l3[j].lo-1=z.hi)→Own σ3.n (s1.put i2 (.cells (row2.take (m*2+1)++ .int .u64 x::row2.drop (m*2+1+1)) 97 false)) 97 encS (.slice (some ⟨i2,0,none⟩) (m+1) co) (qck (l3.take (j+1)))∧Grow σ3 (s1.put i2 (.cells (row2.take (m*2+1)++ .int .u64 x::row2.drop (m*2+1+1)) 97 false)):=by
     intro x hx hc;have e8:qck (l3.take (j+1))=(qck (l3.take j)).set m ⟨z.lo,x⟩:=by rw [hjs,push_set _ m hm _ (by rw [←hz];exact hc),←hz,hx]
     refine⟨.inr ⟨i2,co,by rw [e8,List.length_set,hm],hb2,by simpa using hin2, ?_, ?_⟩,gs1.put hb2 _⟩
     ·rw [CSt.get_put,if_pos rfl,e8,←hrw,row_hi _ m hml x,←hz]
     ·rcases hcap2 with h|⟨h,_⟩
      ·exact .inl h
      ·exact absurd h he
    have hzok:z.ok:=by
     have hji:=qr4 (l:=l3.take j) (λs hs=>hfull s (List.mem_of_mem_take hs)) (hpw.sublist (List.take_sublist _ _))
     rw [hz];exact hji.ok (λs hs=>hok3 s (List.mem_of_mem_take hs)) _ (List.getElem_mem hml)
    have hlok:l3[j].ok:=hok3 _ (List.getElem_mem hjl);have hz0:=hzok.2.1;have hl0:=hlok.1;by_cases c1:l3[j].lo≤z.hi
    ·simp [qa6,qby,qa4,qa0,e12,e13,e14,e3,hm,hc5,hw2,hwm,hwm',hg2,hce,hm2,c1];refine qba (by kernel_rfl) ?_
     simp [qa6,qby,qa4,qa0,maxK,e12,e13,e14,e3,hm,hc5,hw2,hwm,hwm',hg2,hce,hm2,hle2];exact⟨l3.length-(j+1),by omega,j+1,rfl,by omega,rfl,hfin _ (by split<;>omega) (.inl c1)⟩
    ·have hwl:IntKind.u64.wrap (l3[j].lo-1)=l3[j].lo-1:=IntWalk.u64_in _ (by omega)
     by_cases c2:l3[j].lo-1=z.hi
     ·have hwl2:=hwl.trans c2;simp [qa6,qby,qa4,qa0,e12,e13,e14,e3,hm,hc5,hw2,hwm,hwm',hg2,hce,hm2,c1,hwl2];refine qba (by kernel_rfl) ?_
      simp [qa6,qby,qa4,qa0,maxK,e12,e13,e14,e3,hm,hc5,hw2,hwm,hwm',hg2,hce,hm2,hle2];exact⟨l3.length-(j+1),by omega,j+1,rfl,by omega,rfl,hfin _ (by split<;>omega) (.inr c2)⟩
     ·have e9:qck (l3.take (j+1))=qck (l3.take j)++ [l3[j]]:=by
       rw [hjs];unfold qke;rw [hlast];simp only;rw [if_neg (by omega)]
      simp [qa6,qby,qa4,qa0,e12,e13,e14,e3,hm,hc5,hw2,hwm,hwm',hg2,hce,hm2,c1,hwl,c2,a1];exact⟨l3.length-(j+1),by omega,j+1,rfl,by omega,rfl,by rw [e9];exact a2,a3⟩
  ·have hjl':j=l3.length:=by omega
   subst hjl';rw [List.take_of_length_le (Nat.le_refl _)] at hov;simp [qa0,e12,e13,e14,e3];have hji:=qr4 hfull hpw;exact h _ (qck l3) s ⟨hji.can,λt=>(hji.mem t).trans (hmem t)⟩ (hji.ok hok3) (Nat.le_trans (qqw l3) hl3) (hov.weaken hG3.n) (hG3.trans gs)
 ·refine⟨_,0, .slice none 0 0,rfl, ?_⟩;simp;exact⟨Own.nil,Grow.refl _⟩
end Go.Sm
namespace Go.Sm
open Go Go.Proofs
variable {m0:MC}
set_option maxRecDepth 100000
set_option maxHeartbeats 4000000
theorem app_sn {ts:Array TypeId} {f:TF} (hf:ts[0]?.bind (qc6 Tryz.prog)=some (97,f)) (hu:(ts[1]?.bind (qbo Tryz.prog)).isSome=true) (hfs:f.size=2) (h1:f.bytes=16) (h2:f.zero.map List.length=some 2) {b:Nat} {s1:CSt} {l:List Sn} {x:Sn} {v:Value} (ho:Own b s1 97 encS v l) (hb:b≤s1.n) (hl:l.length<2^40):
  ∃p9 c9 s9,qas Tryz.prog (s1.alloc (.cells (encS x) 97 false)) ts v (.slice (some ⟨s1.n,0,none⟩) 1 1)=some (.slice p9 (l.length+1) c9,s9)∧Own b s9 97 encS (.slice p9 (l.length+1) c9) (l++ [x])∧qbx b s1 s9:=by
 have hga:Grow s1 (s1.alloc (.cells (encS x) 97 false)):=(Grow.refl s1).alloc _;obtain⟨v9,s9,a1,a2,a3,_,_⟩:=qay (P:=Tryz.prog) (ts:=ts) (e:=97) (sz:=2) (enc:=encS) (l:=l) (m:= [x]) (b:=b) hf hu lenS cokS hfs (by decide) (by omega) h2 (σ:=s1.alloc (.cells (encS x) 97 false))
  (ho.grow hga) (by simp;omega) (Sl.all (l:= [x]) (i:=s1.n) (cap:=1) (ro:=false) lenS (by simp) (by simp) (.inr ⟨by simp,by simp [qa1]⟩)) (by rw [h1];show(_+1)*16≤_;omega) (by omega)
 obtain⟨p9,c9,rfl⟩:=(a2.sl (sz:=2) lenS).form;rw [List.length_append] at a1 a2;exact⟨p9,c9,s9,a1,a2,(hga.toB hb).trans a3⟩
theorem qnw (b i:Nat) (v:Value) (L:List Lk) (o:Int) (k:ByteArray) (hok:∀x∈L,x.sp.ok) (σ:CSt) (ht:Tb m0 b i v σ L) (hL:L.length<2^36) (Q:Out→CSt→Prop)
  (h:∀(v':Value) (r:List Sn) (σ':CSt),IsOf (qss L o k) r→(∀s∈r,s.ok)→r.length≤L.length→Own σ.n σ' 97 encS v' r→Grow σ σ'→Q (.ret v' false) σ'):W E1 (.fn 111 #[.pointer (some ⟨i,1,none⟩), .int .i64 o, .string k] none) σ Q:=by
 obtain⟨hgi,hbi,hin,hown⟩:=ht;have hsl:=hown.sl (sz:=5) qe1;rw [qap (fn:=Tryz.f111) Tryz.func111 rfl rfl rfl];obtain⟨pv,cv,rfl⟩:=hsl.form;simp [qa0,hgi];refine qaj (λn a s=>∃tm j vo,a=⟨tm,43, [],false⟩∧tm.get 1=some (.int .i64 o)∧tm.get 2=some (.string k)∧tm.get 7=some vo∧tm.get 13=some (.slice pv L.length cv)∧tm.get 14=some (.int .i64 L.length)∧tm.get 15=some (.int .i64 (j:Nat))∧j≤L.length∧n=L.length-j∧Own σ.n s 97 encS vo (qss (L.take j) o k)∧Grow σ s) ?_ L.length _ _ ?_
 ·rintro n a s ⟨tm,j,vo,rfl,e1,e2,e7,e13,e14,e15,hj,hn,hov,gs⟩;obtain⟨po,co,rfl⟩:=(hov.sl (sz:=2) lenS).form;by_cases hjl:j<L.length
  ·obtain⟨i',off,row,ro,rfl,hg,hin',hrow,hle⟩:=(hsl.grow gs).at hjl;have hld:=qam (enc:=qag) qe1 hrow j hjl;have hl1:=qbe hle j hjl;have hw2:=qb7 j (by omega)
   have hjl':(j:Int)<L.length:=by omega
   have hg5:Grow s ((s.alloc (.cells [.int .i64 0, .string ⟨#[]⟩, .string ⟨#[]⟩, .int .u64 0, .int .u64 0] 99 false)).put s.n (.cells (qag L[j]) 99 false)):=((Grow.refl s).alloc _).put (Nat.le_refl _) _;have hc5:((s.alloc (.cells [.int .i64 0, .string ⟨#[]⟩, .string ⟨#[]⟩, .int .u64 0, .int .u64 0] 99 false)).put s.n (.cells (qag L[j]) 99 false)).get s.n=some (.cells (qag L[j]) 99 false):=by simp
   have hn5:((s.alloc (.cells [.int .i64 0, .string ⟨#[]⟩, .string ⟨#[]⟩, .int .u64 0, .int .u64 0] 99 false)).put s.n (.cells (qag L[j]) 99 false)).n=s.n+1:=by simp
   simp only [qag] at hg5 hc5 hn5;simp [qa0,e1,e2,e7,e13,e14,e15,hjl,hjl',hg,hld,hl1];simp [qa0,qag,e1,e2,e7,e13,e14,e15];generalize (s.alloc (.cells [.int .i64 0, .string ⟨#[]⟩, .string ⟨#[]⟩, .int .u64 0, .int .u64 0] 99 false)).put s.n (.cells [.int .i64 L[j].owner, .string L[j].frm, .string L[j].til, .int .u64 L[j].sp.lo, .int .u64 L[j].sp.hi] 99 false)=s1 at hg5 hc5 hn5⊢;have gs1:=gs.trans hg5;have hov1:=hov.grow hg5;have hal:=Nat.le_trans (qtm (L.take j) o k) (List.length_take_le j L);have htk:qss (L.take (j+1)) o k=if(!decide (L[j].owner=o)&&(!klt k L[j].frm&& !klt L[j].til k))=true then qss (L.take j) o k++ [L[j].sp] else qss (L.take j) o k:=by
    rw [List.take_succ_eq_append_getElem hjl,zap]
   have hk1:(klt L[j].frm k||L[j].frm.toList==k.toList)= !klt k L[j].frm:=qi5 _ _
   have hk2:(klt k L[j].til||k.toList==L[j].til.toList)= !klt L[j].til k:=qi5 _ _
   obtain⟨p9,c9,s9,a1,a2,a3⟩:=app_sn (ts:= #[198,198]) ef198 (by simp) rfl rfl rfl (x:=L[j].sp) hov1 (by have:=gs1.n;omega) (by omega)
   have a3:=gs1.thenB a3 (Nat.le_refl _);simp only [encS] at a1;by_cases c1:L[j].owner=o
   ·simp [qa0,qa2,qa4,e1,e2,e7,e13,e14,e15,hc5,hw2,c1];exact⟨L.length-(j+1),by omega,j+1,rfl,by omega,rfl,by rw [htk];simp [c1];exact hov1,gs1⟩
   ·cases c2:klt k L[j].frm with
    |true=>
     rw [c2] at hk1;simp [qa0,qa2,qa4,e1,e2,e7,e13,e14,e15,hc5,hw2,c1,hk1];exact⟨L.length-(j+1),by omega,j+1,rfl,by omega,rfl,by rw [htk];simp [c1,c2];exact hov1,gs1⟩
    |false=>
     rw [c2] at hk1;cases c3:klt L[j].til k with
     |true=>
      rw [c3] at hk2;simp [qa0,qa2,qa4,e1,e2,e7,e13,e14,e15,hc5,hw2,c1,hk1,hk2];exact⟨L.length-(j+1),by omega,j+1,rfl,by omega,rfl,by rw [htk];simp [c1,c2,c3];exact hov1,gs1⟩
     |false=>
      rw [c3] at hk2;simp [qa0,qa2,qa4,e1,e2,e7,e13,e14,e15,hc5,hw2,c1,hk1,hk2,a1];exact⟨L.length-(j+1),by omega,j+1,rfl,by omega,rfl,by rw [htk];simp [c1,c2,c3];exact a2,a3⟩
  ·have hjl':j=L.length:=by omega
   subst hjl';rw [List.take_of_length_le (Nat.le_refl _)] at hov;simp [qa0,e1,e2,e7,e13,e14,e15];refine qnz _ (λs hs=> ?_) _ s (hov.sl lenS) (by have:=qtm L o k;omega) _ λv' r σ' hr hrok hrl ho g=> ?_
   ·obtain⟨x,hx,rfl⟩:=List.mem_map.1 hs;exact hok x (List.mem_filter.1 hx).1
   ·simp [qa0];exact h v' r σ' hr hrok (Nat.le_trans hrl (qtm L o k)) (ho.weaken gs.n) (gs.trans g)
 ·refine⟨_,0, .slice none 0 0,rfl, ?_⟩;simp;exact⟨Own.nil,Grow.refl _⟩
end Go.Sm
namespace Go.Sm
open Go Go.Proofs
set_option maxRecDepth 100000
set_option maxHeartbeats 4000000
theorem qs9 (g:FuncId) (caps:Array Value) (hext:∀args s,qcr E1 (.func (.func g) #[] caps) args s=none) (p:Sn→Bool) (Ok:CSt→Prop) (hog:∀s s',Ok s→Grow s s'→Ok s') (l:List Sn) (v:Value) (σ:CSt) (hsl:Sl σ 97 2 encS v l) (hok:Ok σ)
  (hpred:∀x∈l,∀s Q,Ok s→(∀s',Grow s s'→Q (.ret (.bool (p x)) false) s')→W E1 (.fn g (#[.agg (encS x).toArray]++caps) none) s Q) (hbig:l.length<2^40) (Q:Out→CSt→Prop)
  (h:∀(r:Int) (σ':CSt),((r= -1∧∀x∈l,p x=false)∨∃k:Nat,r=k∧∃hk:k<l.length,p l[k]=true∧∀i (hi:i<l.length),i<k→p l[i]=false)→Grow σ σ'→Q (.ret (.int .i64 r) false) σ'):W E1 (.fn 242 #[v, .func (.func g) #[] caps] none) σ Q:=by
 rw [qap (fn:=Tryz.f242) Tryz.func242 rfl rfl rfl];obtain⟨pp,c,rfl⟩:=hsl.form;simp [qa0];refine qaj (λn a σ'=>∃tm j,a=⟨tm,19, [],false⟩∧tm.get 0=some (.slice pp l.length c)∧tm.get 1=some (.func (.func g) #[] caps)∧tm.get 7=some (.int .i64 l.length)∧tm.get 8=some (.int .i64 (j:Nat))∧j≤l.length∧n=l.length-j∧(∀i (h:i<l.length),i<j→p l[i]=false)∧Grow σ σ') ?_ l.length _ _ ?_
 ·rintro n a σ1 ⟨tm,j,rfl,e0,e1,e7,e8,hj,hn,hno,hgr⟩;by_cases hjl:j<l.length
  ·obtain⟨i,off,row,ro,rfl,hg,hin,hrow,hle⟩:=(hsl.grow hgr).at hjl;have hld:=qam (enc:=encS) lenS hrow j hjl;have hl1:=qbe hle j hjl;have hw2:=qb7 j (by omega)
   simp [qa0,e0,e1,e7,e8,hjl,hg,hld,hl1,hext];have hpr:=λQ=>hpred l[j] (List.getElem_mem hjl) σ1 Q (hog _ _ hok hgr)
   try simp at hpr
   refine hpr _ fun σ2 g2=> ?_
   cases hat:p l[j] with
   |true=>
    have:=h j σ2 (.inr ⟨j,rfl,hjl,hat,hno⟩) (hgr.trans g2);simpa [qa0,hat] using this
   |false=>
    simp [qa0,hat,e0,e1,e7,e8,hw2];refine⟨_, ?_,j+1,rfl,by omega,rfl,λi h hi=> ?_,hgr.trans g2⟩
    ·omega
    ·by_cases e:i=j
     ·subst e;exact hat
     ·exact hno i h (by omega)
  ·have hjl':j=l.length:=by omega
   have:=h (-1) σ1 (.inl ⟨rfl,λx hx=>by
    obtain⟨i,hi,rfl⟩:=List.mem_iff_getElem.1 hx
    exact hno i hi (by omega)⟩) hgr
   simpa [qa0,e0,e1,e7,e8,hjl] using this
 ·refine⟨_,0,rfl, ?_⟩;simp;exact Grow.refl σ
theorem qpu (g:FuncId) (caps:Array Value) (hext:∀args s,qcr E1 (.func (.func g) #[] caps) args s=none) (p:Sn→Bool) (Ok:CSt→Prop) (b:Nat) (l:List Sn) (v:Value) (σ:CSt) (hog:∀s s',Ok s→qd3 v s s'→Ok s') (hown:qbj b σ 97 encS v l) (hok:Ok σ)
  (hpred:∀x∈l,∀s Q,Ok s→(∀s',Grow s s'→Q (.ret (.bool (p x)) false) s')→W E1 (.fn g (#[.agg (encS x).toArray]++caps) none) s Q) (hbig:l.length<2^38) (Q:Out→CSt→Prop)
  (h:∀(v':Value) (σ':CSt),qbj b σ' 97 encS v' (l.filter λx=> !p x)→(qb1 v'=qb1 v)→qd3 v σ σ'→Q (.ret v' false) σ'):W E1 (.fn 194 #[v, .func (.func g) #[] caps] none) σ Q:=by
 rw [qap (fn:=Tryz.f194) Tryz.func194 rfl rfl rfl];obtain⟨pp,c,rfl⟩:=(hown.sl (sz:=2) lenS).form;simp [qa0];refine qs9 g caps hext p Ok (λs s' h1 h2=>hog s s' h1 h2.butV) l _ σ (hown.sl lenS) hok hpred (by omega) _ λr σ1 hr g1=> ?_
 rcases hr with⟨rfl,hall⟩|⟨k,rfl,hk,hpk,hno⟩
 ·have hf:(l.filter λx=> !p x)=l:=List.filter_eq_self.2 λx hx=>by simp [hall x hx]
  have:=h _ σ1 (by rw [hf];exact hown.grow g1) rfl g1.butV
  simpa [qa0] using this
 ·have hk1:¬((k:Nat):Int)= -1:=by omega
  have hwk:=qb7 k (by omega)
  rcases hown with⟨h0,h1⟩|⟨i0,cap,zs,h0,hbi,hin,hg0,hzs,hcap⟩
  ·rw [h1] at hk;simp at hk
  injection h0 with h0 _ h00
  subst h0;subst h00;have hcap:c=qa1:=by
   rcases hcap with hc|⟨hc,_⟩
   ·exact hc
   ·rw [hc] at hk;simp at hk
  subst hcap;have hobj:qb1 (.slice (some ⟨i0,0,none⟩) l.length qa1)=some i0:=rfl;simp [qa0,hk1,hwk];refine qak (λn a s=>∃(tm:Tr Value) (i j:Nat) (d:List Sn),a=⟨tm,42, [],false⟩∧tm.get 0=some (.slice (some ⟨i0,0,none⟩) l.length qa1)∧tm.get 1=some (.func (.func g) #[] caps)∧tm.get 5=some (.int .i64 (i:Nat))∧tm.get 6=some (.int .i64 (j:Nat))∧j≤l.length∧n=l.length-j∧d.length=l.length∧d.take i=((l.take j).filter λx=> !p x)∧i=((l.take j).filter λx=> !p x).length∧d.drop j=l.drop j∧i<j∧s.get i0=some (.cells (d.flatMap encS++zs) 97 false)∧qd3 (.slice (some ⟨i0,0,none⟩) l.length qa1) σ s)
   (λo s=>∃(tm:Tr Value) (i:Nat) (d:List Sn),o= .code (.exit 0) ⟨tm,42, [],false⟩∧tm.get 0=some (.slice (some ⟨i0,0,none⟩) l.length qa1)∧tm.get 5=some (.int .i64 (i:Nat))∧d.length=l.length∧d.take i=(l.filter λx=> !p x)∧i=(l.filter λx=> !p x).length∧i<l.length∧s.get i0=some (.cells (d.flatMap encS++zs) 97 false)∧qd3 (.slice (some ⟨i0,0,none⟩) l.length qa1) σ s) ?_ (l.length-(k+1)) _ _ ?_ ?_
  ·rintro n a s ⟨tm,i,j,d,rfl,e0,e1,e5,e6,hj,hn,hd,ht,hi,hdr,hij,hgs,hbs⟩;by_cases hjl:j<l.length
   ·have hjl':(j:Int)<l.length:=by omega
    have hjd:j<d.length:=by omega
    have hdj:=qh9 hjl hd hdr;have hrow:=rowZ lenS d zs;have hrl:(d.flatMap encS++zs).length=d.length*2+zs.length:=by rw [List.length_append,qa5 encS lenS]
    have hld:=qam (enc:=encS) lenS hrow j hjd;rw [Nat.zero_add,hdj] at hld;have hset:=λx=>qin lenS d i x (by omega) zs
    have hw6:=qb7 j (by omega)
    have hw5:=qb7 i (by omega)
    have hil:i<l.length:=by omega
    have hsn:=hbs.1;generalize hrw:d.flatMap encS++zs=row at hgs hrow hrl hld hset;have hle1:j*2+2≤row.length:=by omega
    have hle2:i*2+2≤row.length:=by omega
    have hne:¬i0=s.n:=by omega
    have hgw:Grow s ((s.alloc (.cells [.int .u64 0, .int .u64 0] 97 false)).put s.n (.cells (encS l[j]) 97 false)):=((Grow.refl s).alloc _).put (Nat.le_refl _) _;have hcw:((s.alloc (.cells [.int .u64 0, .int .u64 0] 97 false)).put s.n (.cells (encS l[j]) 97 false)).get s.n=some (.cells (encS l[j]) 97 false):=by simp
    have htk:List.take 2 (encS l[j])=encS l[j]:=List.take_of_length_le (by rw [lenS];exact Nat.le_refl _)
    have hlen2:(encS l[j]).length=2:=lenS _;have hcok2:qc9 (encS l[j])=true:=cokS _;have hnw:((s.alloc (.cells [.int .u64 0, .int .u64 0] 97 false)).put s.n (.cells (encS l[j]) 97 false)).n=s.n+1:=by simp
    simp [qa0,e0,e1,e5,e6,hjl,hjl',hgs,hld,hle1,hext,htk,hlen2,hcok2];generalize (s.alloc (.cells [.int .u64 0, .int .u64 0] 97 false)).put s.n (.cells (encS l[j]) 97 false)=s1 at hgw hcw hnw⊢;have hpr:=λQ=>hpred l[j] (List.getElem_mem hjl) s1 Q (hog _ _ hok (hbs.trans hgw.butV))
    try simp at hpr
    refine hpr _ λs2 g2=> ?_
    have g02:=hgw.trans g2;have hgs2:=g02.get hgs (by omega)
    have hcw2:=g2.get hcw (by omega)
    have hb2:=hbs.trans g02.butV;cases hp:p l[j] with
    |true=>
     obtain⟨k1,k2,k3⟩:=qc1 hjl ht hi hdr hp;simp [qa0,e0,e1,e5,e6,hw6];exact⟨n-1,by omega,i,rfl,j+1,rfl,by omega,by omega,d,hd,k1,k2,k3,by omega,by rw [hrw];exact hgs2,hb2⟩
    |false=>
     obtain⟨k0,k1,k2,k3⟩:=qc0 hjl hd ht hi hdr (by omega) hp
     have hset2:=hset l[j];have hil':(i:Int)<l.length:=by omega
     simp [qa0,e0,e1,e5,e6,hw5,hw6,hil,hil',hgs2,hcw2,htk,hlen2,hcok2,hle2];exact⟨n-1,by omega,i+1,rfl,j+1,rfl,by omega,by omega,d.set i l[j],k0,k1,k2,k3,by omega,by rw [←hset2,List.append_assoc],hb2.putV hobj _⟩
   ·have hjl':¬(j:Int)<l.length:=by omega
    have hje:j=l.length:=by omega
    rw [hje,List.take_length] at ht hi;simp [qa0,e0,e1,e5,e6,hjl,hjl'];exact⟨i,rfl,d,hd,ht,hi,by omega,hgs,hbs⟩
  ·have hft:=qfc hk hno hpk;refine⟨_,k,k+1,l,rfl, ?_⟩;simp;refine⟨by omega,by rw [hft],by rw [hft];simp;omega, ?_, ?_⟩
   ·exact g1.get hg0 hin
   ·exact g1.butV
  ·rintro o s ⟨tm,i,d,rfl,e0,e5,hd,ht,hi,hil,hgs,hbs⟩;have hzl:((List.replicate (l.length-i) ([.int .u64 0, .int .u64 0]:List Value)).flatten).length=(l.length-i)*2:=by
    rw [List.length_flatten];simp
   have hzc:qc9 ((List.replicate (l.length-i) ([.int .u64 0, .int .u64 0]:List Value)).flatten)=true:=qho _ _ rfl;have hrl:(d.flatMap encS++zs).length=d.length*2+zs.length:=by rw [List.length_append,qa5 encS lenS]
   have hcl:=qp7 lenS d i (by omega) zs ((List.replicate (l.length-i) ([.int .u64 0, .int .u64 0]:List Value)).flatten) (by rw [hzl,hd])
   have hst:st (d.flatMap encS++zs) (i*2) ((List.replicate (l.length-i) ([.int .u64 0, .int .u64 0]:List Value)).flatten)=some ((d.take i).flatMap encS++((List.replicate (l.length-i) ([.int .u64 0, .int .u64 0]:List Value)).flatten++zs)):=by
    rw [←hcl];unfold st;rw [if_pos (by rw [hzl,hrl,hd];omega)]
   generalize hrw:d.flatMap encS++zs=row at hgs hrl hcl hst;have hil':¬l.length-i=0:=by omega
   have hi2:i≤l.length:=by omega
   have hle3:l.length*2≤row.length:=by omega
   have hle4:i*2≤row.length:=by omega
   simp [qa0,e0,e5,qb5,qdn,qgy,qiz,hgs,hi2,hil',hst,hle3,hle4,-qi0];rw [ht,hi];refine h _ _ (.inr ⟨i0,qa1,_,rfl,hbi,Nat.lt_of_lt_of_le hin hbs.1,by rw [CSt.get_put,if_pos rfl], ?_, .inl rfl⟩) rfl (hbs.putV hobj _)
   rw [qcb,hzs,←hi,hzc];rfl
end Go.Sm
namespace Go.Sm
open Go Go.Proofs
variable {m0:MC}
set_option maxRecDepth 100000
set_option maxHeartbeats 4000000
theorem app_sns {ts:Array TypeId} {f:TF} (hf:ts[0]?.bind (qc6 Tryz.prog)=some (97,f)) (hu:(ts[1]?.bind (qbo Tryz.prog)).isSome=true) (hfs:f.size=2) (h1:f.bytes=16) (h2:f.zero.map List.length=some 2) {b:Nat} {s1:CSt} {l ms:List Sn} (hms:ms≠ []) (hms2:ms.length<100) {v:Value} (ho:Own b s1 97 encS v l) (hb:b≤s1.n) (hl:l.length<2^40):
  ∃p9 c9 s9,qas Tryz.prog (s1.alloc (.cells (ms.flatMap encS) 97 false)) ts v (.slice (some ⟨s1.n,0,none⟩) ms.length ms.length)=some (.slice p9 (l.length+ms.length) c9,s9)∧Own b s9 97 encS (.slice p9 (l.length+ms.length) c9) (l++ms)∧qbx b s1 s9∧qd3 v s1 s9∧∃j,qb1 (.slice p9 (l.length+ms.length) c9)=some j∧s1.n≤j:=by
 have hga:Grow s1 (s1.alloc (.cells (ms.flatMap encS) 97 false)):=(Grow.refl s1).alloc _;obtain⟨v9,s9,a1,a2,a3,a4,a5⟩:=qay (P:=Tryz.prog) (ts:=ts) (e:=97) (sz:=2) (enc:=encS) (l:=l) (m:=ms) (b:=b) hf hu lenS cokS hfs (by decide) (by omega) h2 (σ:=s1.alloc (.cells (ms.flatMap encS) 97 false))
  (ho.grow hga) (by simp;omega) (Sl.all (l:=ms) (i:=s1.n) (cap:=ms.length) (ro:=false) lenS (by simp) (by simp) (.inr ⟨Nat.le_refl _,by simp only [qa1];omega⟩)) (by rw [h1];omega) (by omega)
 obtain⟨n,c,e⟩:=a5 hms;obtain⟨p9,c9,rfl⟩:=(a2.sl (sz:=2) lenS).form;rw [List.length_append] at a1 a2;refine⟨p9,c9,s9,a1,a2,(hga.toB hb).trans a3,⟨by have:=a3.1;simp at this;omega,λj hj hne=> ?_⟩, ?_⟩
 ·rw [a4 j (by simp;omega) (λi off n c h=>by rintro rfl;exact hne (by rw [h];rfl)),hga.old j hj]
 ·cases e;exact⟨_,rfl,by simp⟩
theorem qx6 (l:List Sn) (s o:Sn):qg9 (l++ [s]) o=qg9 l o++ [qis s o,qdm s o]:=by
 unfold qg9;rw [List.flatMap_append];simp
theorem qvb {l m:List Sn} (h:∀s∈l,s.ok) (k:∀s∈m,s.ok):∀j,∀s∈qev l (m.take j),s.ok:=by
 intro j
 induction j with
 |zero=>intro s hs;simp [qev] at hs;exact h s hs
 |succ j ih=>
  by_cases hj:j<m.length
  ·rw [List.take_succ_eq_append_getElem hj,qnd];intro s hs;exact cutS1_ok ih (k _ (List.getElem_mem hj)) s (List.mem_filter.1 hs).1
  ·rw [List.take_of_length_le (by omega)] at ih⊢
   exact ih
theorem qv9 (l m:List Sn) (hl:∀s∈l,s.ok) (hm:∀s∈m,s.ok) (v u:Value) (σ:CSt) (hn:gnone σ) (hz:0<σ.n) (hsl:Sl σ 97 2 encS v l) (hsm:Sl σ 97 2 encS u m) (hll:l.length<2^36) (hlm:m.length<2^36) (N:Nat) (hN:∀j,(qev l (m.take j)).length≤N) (hbig:N<2^36) (Q:Out→CSt→Prop)
  (h:∀(v':Value) (r:List Sn) (σ':CSt),IsOf (qev l m) r→(∀s∈r,s.ok)→r.length≤N→Own σ.n σ' 97 encS v' r→Grow σ σ'→Q (.ret v' false) σ'):W E1 (.fn 110 #[v,u] none) σ Q:=by
 rw [qap (fn:=Tryz.f110) Tryz.func110 rfl rfl rfl];obtain⟨p,c,rfl⟩:=hsl.form;obtain⟨p',c',rfl⟩:=hsm.form;simp [qa0];refine clone_38 l _ σ hsl (by omega) _ λv5 σ1 ho5 g1=> ?_
 simp [qa0];refine qaj (λn a s=>∃tm j vo,a=⟨tm,44, [],false⟩∧tm.get 5=some vo∧tm.get 15=some (.slice p' m.length c')∧tm.get 16=some (.int .i64 m.length)∧tm.get 17=some (.int .i64 (j:Nat))∧j≤m.length∧n=m.length-j∧qbj σ.n s 97 encS vo (qev l (m.take j))∧Grow σ s) ?_ m.length _ _ ?_
 ·rintro n a s ⟨tm,j,vo,rfl,e5,e15,e16,e17,hj,hnn,hov,gs⟩;have hlen:(qev l (m.take j)).length<2^36:=by
   have:=hN j;omega
  have hokj:=qvb hl hm j;obtain⟨po,co,rfl⟩:=(hov.sl (sz:=2) lenS).form;by_cases hjl:j<m.length
  ·obtain⟨i,off,row,ro,rfl,hg,hin,hrow,hle⟩:=(hsm.grow gs).at hjl;have hld:=qam (enc:=encS) lenS hrow j hjl;have hl1:=qbe hle j hjl;have hw2:=qb7 j (by omega)
   have hjl':(j:Int)<m.length:=by omega
   have hg5:Grow s ((s.alloc (.cells [.int .u64 0, .int .u64 0] 97 false)).put s.n (.cells (encS m[j]) 97 false)):=((Grow.refl s).alloc _).put (Nat.le_refl _) _;have hc5:((s.alloc (.cells [.int .u64 0, .int .u64 0] 97 false)).put s.n (.cells (encS m[j]) 97 false)).get s.n=some (.cells (encS m[j]) 97 false):=by simp
   have hn5:((s.alloc (.cells [.int .u64 0, .int .u64 0] 97 false)).put s.n (.cells (encS m[j]) 97 false)).n=s.n+1:=by simp
   have hend:qev l (m.take (j+1))=(qg9 (qev l (m.take j)) m[j]).filter full:=by
    rw [List.take_succ_eq_append_getElem hjl,qnd]
   have hom:=hm _ (List.getElem_mem hjl);simp only [encS] at hg5 hc5 hn5;simp [qa0,e5,e15,e16,e17,hjl,hjl',hg,hld,hl1];simp [qa0,encS,e5,e15,e16,e17,-qim];generalize (s.alloc (.cells [.int .u64 0, .int .u64 0] 97 false)).put s.n (.cells [.int .u64 m[j].lo, .int .u64 m[j].hi] 97 false)=s1 at hg5 hc5 hn5⊢;have gs1:=gs.trans hg5;have hsc:=(hov.grow hg5).sl (sz:=2) lenS;have hov1:=hov.grow hg5;obtain⟨q0,hq0⟩:∃q0,q0=s.n:=⟨_,rfl⟩
   rw [←hq0] at hc5 hn5;generalize hC:qev l (m.take j)=C at*;generalize m[j]=o at*;simp [qa0,e5,e15,e16,e17];refine qak (λn a t=>∃tm k v8,a=⟨tm,44, [],false⟩∧tm.get 7=some (.pointer (some ⟨q0,0,none⟩))∧tm.get 8=some v8∧tm.get 15=some (.slice (some ⟨i,off,none⟩) m.length c')∧tm.get 16=some (.int .i64 m.length)∧tm.get 17=some (.int .i64 (j:Nat))∧tm.get 21=some (.slice po C.length co)∧tm.get 22=some (.int .i64 C.length)∧tm.get 23=some (.int .i64 (k:Nat))∧k≤C.length∧n=C.length-k∧Own s1.n t 97 encS v8 (qg9 (C.take k) o)∧Grow s1 t)
    (λout t=>∃tm v8,out= .code (.exit 2) ⟨tm,44, [],false⟩∧tm.get 8=some v8∧tm.get 15=some (.slice (some ⟨i,off,none⟩) m.length c')∧tm.get 16=some (.int .i64 m.length)∧tm.get 17=some (.int .i64 (j:Nat))∧Own s1.n t 97 encS v8 (qg9 C o)∧Grow s1 t) ?_ C.length _ _ ?_ ?_
   ·rintro n2 a2 t ⟨tm2,k,v8,rfl,f7,f8,f15,f16,f17,f21,f22,f23,hk,hnn2,hov2,gt⟩;obtain⟨po2,co2,rfl⟩:=(hov2.sl (sz:=2) lenS).form;by_cases hkl:k<C.length
    ·obtain⟨i2,off2,row2,ro2,rfl,hg2,hin2,hrow2,hle2⟩:=(hsc.grow gt).at hkl;have hld2:=qam (enc:=encS) lenS hrow2 k hkl;have hl2:=qbe hle2 k hkl;have hw3:=qb7 k (by omega)
     have hkl':(k:Int)<C.length:=by omega
     have hg6:Grow t ((t.alloc (.cells [.int .u64 0, .int .u64 0] 97 false)).put t.n (.cells (encS C[k]) 97 false)):=((Grow.refl t).alloc _).put (Nat.le_refl _) _;have hc6:((t.alloc (.cells [.int .u64 0, .int .u64 0] 97 false)).put t.n (.cells (encS C[k]) 97 false)).get t.n=some (.cells (encS C[k]) 97 false):=by simp
     have hn6:((t.alloc (.cells [.int .u64 0, .int .u64 0] 97 false)).put t.n (.cells (encS C[k]) 97 false)).n=t.n+1:=by simp
     simp only [encS] at hg6 hc6 hn6;have hc7:=(gt.trans hg6).get hc5 (by omega)
     simp [qa0,f7,f8,f15,f16,f17,f21,f22,f23,hkl,hkl',hg2,hld2,hl2];simp [qa0,encS,f7,f8,f15,f16,f17,f21,f22,f23,-qim];generalize (t.alloc (.cells [.int .u64 0, .int .u64 0] 97 false)).put t.n (.cells [.int .u64 C[k].lo, .int .u64 C[k].hi] 97 false)=t1 at hg6 hc6 hn6 hc7⊢;have gt1:=gt.trans hg6;have hov3:=hov2.grow hg6;simp [qa0,f7,f8,f15,f16,f17,f21,f22,f23,hc6,hc7];have hls:=qzp C[k] o (hokj _ (List.getElem_mem hkl)) hom t1 (qar hn hz (gs1.trans gt1)) (by omega)
     simp only [encS] at hls;refine hls _ λt2 g2=> ?_
     simp [qa0,f7,f8,f15,f16,f17,f21,f22,f23,-qim];have hg3:Grow t2 ((((t2.alloc (.cells [.int .u64 0, .int .u64 0] 97 false)).alloc (.cells [.int .u64 0, .int .u64 0] 97 false)).put t2.n (.cells (encS (qis C[k] o)) 97 false)).put (t2.n+1) (.cells (encS (qdm C[k] o)) 97 false)):=((((Grow.refl t2).alloc _).alloc _).put (Nat.le_refl _) _).put (Nat.le_succ _) _;have hca:((((t2.alloc (.cells [.int .u64 0, .int .u64 0] 97 false)).alloc (.cells [.int .u64 0, .int .u64 0] 97 false)).put t2.n (.cells (encS (qis C[k] o)) 97 false)).put (t2.n+1) (.cells (encS (qdm C[k] o)) 97 false)).get t2.n=some (.cells (encS (qis C[k] o)) 97 false):=by
      rw [CSt.get_put,if_neg (by omega),CSt.get_put,if_pos rfl]
     have hcb:((((t2.alloc (.cells [.int .u64 0, .int .u64 0] 97 false)).alloc (.cells [.int .u64 0, .int .u64 0] 97 false)).put t2.n (.cells (encS (qis C[k] o)) 97 false)).put (t2.n+1) (.cells (encS (qdm C[k] o)) 97 false)).get (t2.n+1)=some (.cells (encS (qdm C[k] o)) 97 false):=by
      rw [CSt.get_put,if_pos rfl]
     have hn7:((((t2.alloc (.cells [.int .u64 0, .int .u64 0] 97 false)).alloc (.cells [.int .u64 0, .int .u64 0] 97 false)).put t2.n (.cells (encS (qis C[k] o)) 97 false)).put (t2.n+1) (.cells (encS (qdm C[k] o)) 97 false)).n=t2.n+2:=by simp
     simp only [encS] at hg3 hca hcb hn7;generalize (((t2.alloc (.cells [.int .u64 0, .int .u64 0] 97 false)).alloc (.cells [.int .u64 0, .int .u64 0] 97 false)).put t2.n (.cells [.int .u64 (qis C[k] o).lo, .int .u64 (qis C[k] o).hi] 97 false)).put (t2.n+1) (.cells [.int .u64 (qdm C[k] o).lo, .int .u64 (qdm C[k] o).hi] 97 false)=t3 at hg3 hca hcb hn7⊢;have hg63:=(hg6.trans g2).trans hg3;have gt3:=gt.trans hg63;have hal:(qg9 (C.take k) o).length<2^40:=by rw [qpm,List.length_take_of_le hk];omega
     obtain⟨p9,c9,s9,a1,a2,a3,a4,jn,a5,a6⟩:=app_sns (ts:= #[199,199]) ef199 (by simp) rfl rfl rfl (ms:= [qis C[k] o,qdm C[k] o]) (by simp) (by simp) (hov2.grow hg63) gt3.n hal
     simp [encS] at a1;simp [qa6,qby,qa4,qa0,encS,f7,f8,f15,f16,f17,f21,f22,f23,hca,hcb,hw3,a1];refine⟨C.length-(k+1),by omega,k+1,rfl,by omega,rfl, ?_,gt3.thenB a3 (Nat.le_refl _)⟩
     rw [List.take_succ_eq_append_getElem hkl,qx6];exact a2
    ·have hkl':k=C.length:=by omega
     subst hkl';rw [List.take_of_length_le (Nat.le_refl _)] at hov2;simp [qa0,f7,f8,f15,f16,f17,f21,f22,f23];exact⟨hov2,gt⟩
   ·refine⟨_,0, .slice none 0 0,rfl, ?_⟩;simp [e5,e15,e16,e17,hq0];exact⟨Own.nil,Grow.refl _⟩
   ·rintro out t ⟨tm2,v8,rfl,f8,f15,f16,f17,hov2,gt⟩;obtain⟨po2,co2,rfl⟩:=(hov2.sl (sz:=2) lenS).form;simp [qa0,f8,f15,f16,f17,hw2];refine qpu 189 #[] (λargs s=>qef rfl) (λs=> !full s) (λ_=>True) s1.n (qg9 C o) _ t (λ_ _ _ _=>trivial) hov2.z trivial (λx hx s Q _ hq=> ?_) (by rw [qpm];omega) _ λv9 t2 ho9 hob g9=> ?_
    ·simp only [Array.append_empty];exact qds x s Q hq
    simp only [Bool.not_not] at ho9;obtain⟨po9,co9,rfl⟩:=(ho9.sl (sz:=2) lenS).form;simp [qa0,f8,f15,f16,f17,hw2];refine⟨m.length-(j+1),by omega,j+1,rfl,by omega,rfl, ?_, ?_⟩
    ·rw [hend];exact ho9.weaken (by have:=gs1.n;omega)
    ·have hgt:Grow s1 t2:=⟨by have:=gt.n;have:=g9.1;omega,λx hx=>by
      rw [g9.2 x (by have:=gt.n;omega) (λe=>by have:=(hov2.z.lt e).1;omega)]
      exact gt.old x hx⟩
     exact gs1.trans hgt
  ·have hjl':j=m.length:=by omega
   subst hjl';rw [List.take_of_length_le (Nat.le_refl _)] at hov hokj hlen;simp [qa0,e5,e15,e16,e17];have hle:(qev l m).length≤N:=by
    have:=hN m.length
    rwa [List.take_length] at this
   have hokm:∀s∈qev l m,s.ok:=by
    have:=qvb hl hm m.length
    rwa [List.take_length] at this
   refine qnz _ hokm _ s (hov.sl lenS) (by omega) _ λv' r σ' hr hrok hrl ho g=> ?_
   simp [qa0];exact h v' r σ' hr hrok (by omega) (ho.weaken gs.n) (gs.trans g)
 ·refine⟨_,0,v5,rfl, ?_⟩;simp;exact⟨ho5.z,g1⟩
end Go.Sm
namespace Go.Sm
set_option maxRecDepth 100000
set_option maxHeartbeats 4000000
def Apt (l:List Sn):Prop:=(∀s∈l,s.lo≤s.hi)∧l.Pairwise λa b=>a.hi<b.lo
theorem Canon.apt {l:List Sn} (h:Canon l):Apt l:=⟨h.full,h.apart.imp fun {a b} h=>by omega⟩
theorem qjx {s:Sn} (h:full (qd4 s)=true):qd4 s=s∧s.lo≤s.hi:=by
 unfold qd4 at h⊢;by_cases hm:s.lo≤s.hi
 ·rw [if_pos hm];exact⟨rfl,hm⟩
 ·rw [if_neg hm] at h;exact absurd h (by decide)
theorem qyk {s o:Sn} (h:full (qis s o)=true):s.lo≤(qis s o).lo∧(qis s o).hi≤s.hi∧(qis s o).lo≤(qis s o).hi∧(o.lo≤o.hi→(qis s o).hi<o.lo∧s.lo<o.lo):=by
 unfold qis at h⊢;by_cases ho:o.lo≤o.hi
 ·rw [if_pos ho] at h⊢;unfold qc7 at h⊢;by_cases hc:o.lo≤s.lo
  ·rw [if_pos hc] at h;exact absurd h (by decide)
  ·rw [if_neg hc] at h⊢;obtain⟨e,hm⟩:=qjx h;rw [e];simp only at hm⊢;omega
 ·rw [if_neg ho] at h⊢;obtain⟨e,hm⟩:=qjx h;rw [e];omega
theorem qu5 {s o:Sn} (h:full (qdm s o)=true):s.lo≤(qdm s o).lo∧(qdm s o).hi≤s.hi∧(qdm s o).lo≤(qdm s o).hi∧o.lo≤o.hi∧o.hi<(qdm s o).lo∧o.hi<s.hi:=by
 unfold qdm at h⊢;by_cases ho:o.lo≤o.hi
 ·rw [if_pos ho] at h⊢;unfold qbi at h⊢;by_cases hc:s.hi≤o.hi
  ·rw [if_pos hc] at h;exact absurd h (by decide)
  ·rw [if_neg hc] at h⊢;obtain⟨e,hm⟩:=qjx h;rw [e];simp only at hm⊢;omega
 ·rw [if_neg ho] at h;exact absurd h (by decide)
def qym (o s:Sn):List Sn:= [qis s o,qdm s o].filter full
theorem qnf (l:List Sn) (o:Sn):(qg9 l o).filter full=l.flatMap (qym o):=by
 unfold qg9 qym;rw [List.filter_flatMap]
theorem qnv {o s x:Sn} (h:x∈qym o s):s.lo≤x.lo∧x.hi≤s.hi∧x.lo≤x.hi:=by
 obtain⟨h1,h2⟩:=List.mem_filter.1 h;simp only [List.mem_cons,List.not_mem_nil,or_false] at h1;rcases h1 with rfl|rfl
 ·have:=qyk h2;omega
 ·have:=qu5 h2;omega
theorem cut2_apt (o s:Sn):(qym o s).Pairwise λa b=>a.hi<b.lo:=by
 unfold qym;rw [List.filter_cons];cases h1:full (qis s o) with
 |false=>
  rw [if_neg (by decide),List.filter_cons]
  split<;>simp
 |true=>
  rw [if_pos rfl,List.filter_cons];split
  ·rename_i h2;have a:=qyk h1;have b:=qu5 h2;simp;omega
  ·simp
theorem cut_apt {l:List Sn} (h:Apt l) (o:Sn):Apt ((qg9 l o).filter full):=by
 rw [qnf];refine⟨λx hx=> ?_, ?_⟩
 ·obtain⟨s,hs,hx⟩:=List.mem_flatMap.1 hx;exact(qnv hx).2.2
 ·rw [List.pairwise_flatMap];refine⟨λs _=>cut2_apt o s,h.2.imp fun {a b} hab x hx y hy=> ?_⟩
  have:=qnv hx;have:=qnv hy;omega
theorem cut2_le (o s:Sn):(qym o s).length≤2:=by
 unfold qym;exact List.length_filter_le _ _
theorem quv {o s:Sn} (h:¬(s.lo<o.lo∧o.hi<s.hi)∨o.hi<o.lo):(qym o s).length≤1:=by
 unfold qym;rw [List.filter_cons];cases h1:full (qis s o) with
 |false=>rw [if_neg (by decide)];exact List.length_filter_le _ _
 |true=>
  rw [if_pos rfl,List.filter_cons];cases h2:full (qdm s o) with
  |false=>simp
  |true=>
   have a:=qyk h1;have b:=qu5 h2;have:=a.2.2.2 (by omega)
   omega
theorem qqu {o:Sn} (ho:o.lo≤o.hi):∀{l:List Sn},(∀s∈l,o.hi<s.lo)→(l.flatMap (qym o)).length≤l.length
 | [],_=>by simp
 |s::l,h=>by
  have ih:=qqu ho (l:=l) λx hx=>h x (by simp [hx])
  have:=quv (o:=o) (s:=s) (.inl λhc=>by have:=h s (by simp);omega)
  rw [List.flatMap_cons,List.length_append,List.length_cons];omega
theorem quy (o:Sn):∀{l:List Sn},Apt l→(l.flatMap (qym o)).length≤l.length+1
 | [],_=>by simp
 |s::l,h=>by
  have h':Apt l:=⟨λx hx=>h.1 x (by simp [hx]),(List.pairwise_cons.1 h.2).2⟩
  rw [List.flatMap_cons,List.length_append,List.length_cons];by_cases hc:(s.lo<o.lo∧o.hi<s.hi)∧o.lo≤o.hi
  ·have h2:=cut2_le o s;have h3:=qqu hc.2 (l:=l) λx hx=>by
    have:=(List.pairwise_cons.1 h.2).1 x hx;omega
   omega
  ·have h2:=quv (o:=o) (s:=s) (by omega)
   have h3:=quy o h';omega
theorem qvh {l:List Sn} (h:Apt l) (m:List Sn):Apt (qev l m)∧(qev l m).length≤l.length+m.length:=by
 unfold qev
 induction m generalizing l with
 |nil=>exact⟨h,by simp⟩
 |cons o m ih=>
  rw [List.foldl_cons];obtain⟨h1,h2⟩:=ih (cut_apt h o);refine⟨h1, ?_⟩;have h3:=quy o h;rw [←qnf] at h3;rw [List.length_cons];omega
structure Beside (P:PM) (n:Int) (Q:PM):Prop where
 S:Q.S=P.S
 clock:Q.clock=P.clock
 last:Q.last=n
 taken:Q.taken=P.taken
 L:Q.L.filter (λl=> !decide (l.owner=n))=P.L
 live:Q.live.filter (λx=> !decide (x.1=n))=P.live
theorem qle {s:Sn} {l:List Sn} (h:Canon (s::l)):mem (s::l) s.lo∧∀t,mem (s::l) t→s.lo≤t:=by
 have hf:=h.full s (by simp)
 refine⟨⟨s,by simp,Int.le_refl _,hf⟩,λt ht=> ?_⟩
 rcases mem_cons.1 ht with h1|h1
 ·exact h1.1
 ·have:=h.above h1;omega
theorem qyq {P:PM} (h:P.Ok) {n:Int} {t:Tx} (hg:P.get n=some t) (hs:t.snap=false) {F:List Sn} (hF:Canon F) (hm:∀a,mem F a↔(t.sp.lo≤a∧a≤t.sp.hi)∧P.free n t a=true):P.point n=match F with| []=>(0,7)|s::_=>(s.lo,0):=by
 rcases qbw h hg hs with⟨hp,hno⟩|⟨a,hp,ha1,ha2,hf,hlt⟩
 ·rw [hp];cases F with
  |nil=>rfl
  |cons s l=>
   obtain⟨h1,_⟩:=qle hF;obtain⟨⟨h2,h3⟩,h4⟩:=(hm _).1 h1;rw [hno _ h2 h3] at h4;cases h4
 ·rw [hp];have hma:=(hm a).2 ⟨⟨ha1,ha2⟩,hf⟩;cases F with
  |nil=>
   obtain⟨s,hs',_⟩:=hma;cases hs'
  |cons s l=>
   obtain⟨h1,h2⟩:=qle hF;obtain⟨⟨h3,h4⟩,h5⟩:=(hm _).1 h1;have h6:=h2 a hma;have:s.lo=a:=by
    rcases Int.lt_or_eq_of_le h6 with h7|h7
    ·rw [hlt _ h3 h7] at h5;cases h5
    ·exact h7
   show(a,(0:Int))=(s.lo,0)
   rw [this]
end Go.Sm
namespace Go.Sm
open Go Go.Proofs
set_option maxRecDepth 100000
set_option maxHeartbeats 4000000
theorem MIt.grow {κ:Type} {key:κ→Value} {s s':CSt} {r m:Nat} {M S:MlG κ} (h:MIt key s r m M S) (hr:r<s.n) (hm:m<s.n) (g:Grow s s'):MIt key s' r m M S:=h.congr (g.old r hr) (g.old m hm)
theorem qxm (l:List Sn) (v:Value) (σ:CSt) (hsl:Sl σ 97 2 encS v l) (hbig:l.length<2^40) (Q:Out→CSt→Prop)
  (h:Q (.ret (.tuple #[.int .u64 (match l with| []=>0|s::_=>s.lo), .bool (match l with| []=>false|_::_=>true)]) false) σ):W E1 (.fn 112 #[v] none) σ Q:=by
 rw [qap (fn:=Tryz.f112) Tryz.func112 rfl rfl rfl];cases l with
 |nil=>
  obtain⟨p,c,rfl⟩:=hsl.form;simpa [qa0] using h
 |cons s l=>
  obtain⟨p,c,rfl⟩:=hsl.form;obtain⟨i,off,row,ro,rfl,hg,hin,hrow,hle⟩:=hsl.at (k:=0) (by simp)
  have hc:=qb2 (enc:=encS) lenS hrow 0 0 (by simp) (by omega)
  simp [encS] at hc;have hne:¬((l.length:Int)+1=0):=by omega
  simpa [qa0,hne,hg,hc] using h
def qjh (P:PM) (t:Tx) (n:Int) (dk:List ByteArray) (dt:List Int) (fr:List Sn):Prop:=Canon fr∧(∀s∈fr,s.ok)∧fr.length≤1+dk.length*P.L.length+dt.length∧∀a,mem fr a↔(t.sp.lo≤a∧a≤t.sp.hi)∧(∀k∈dk,¬mem (qss P.L n k) a)∧a∉dt
theorem qjh.key {P:PM} {t:Tx} {n:Int} {dk:List ByteArray} {dt:List Int} {fr m r:List Sn} {k:ByteArray} (h:qjh P t n dk dt fr) (hm:IsOf (qss P.L n k) m) (hml:m.length≤P.L.length) (hr:IsOf (qev fr m) r) (hrk:∀s∈r,s.ok) (hrl:r.length≤fr.length+m.length):qjh P t n (dk++ [k]) dt r:=by
 obtain⟨h1,h2,h3,h4⟩:=h;refine⟨hr.1,hrk, ?_,λa=> ?_⟩
 ·rw [List.length_append,List.length_singleton,Nat.add_mul];omega
 ·rw [hr.2,qq0,h4,hm.2]
  constructor
  ·rintro⟨⟨a1,a2,a3⟩,a4⟩
   exact⟨a1,λq hq=>by
    rcases List.mem_append.1 hq with hq|hq
    ·exact a2 q hq
    ·rw [List.mem_singleton] at hq;subst hq;exact a4,a3⟩
  ·rintro⟨a1,a2,a3⟩;exact⟨⟨a1,λq hq=>a2 q (by simp [hq]),a3⟩,a2 k (by simp)⟩
theorem qjh.time {P:PM} {t:Tx} {n:Int} {dk:List ByteArray} {dt:List Int} {fr m r:List Sn} {b:Int} (h:qjh P t n dk dt fr) (hm:IsOf [⟨b,b⟩] m) (hml:m.length≤1) (hr:IsOf (qev fr m) r) (hrk:∀s∈r,s.ok) (hrl:r.length≤fr.length+m.length):qjh P t n dk (dt++ [b]) r:=by
 obtain⟨h1,h2,h3,h4⟩:=h;refine⟨hr.1,hrk, ?_,λa=> ?_⟩
 ·rw [List.length_append,List.length_singleton];omega
 ·have hb:mem [(⟨b,b⟩:Sn)] a↔a=b:=by
   unfold mem inS;simp;omega
  rw [hr.2,qq0,h4,hm.2,hb];simp only [List.mem_append,List.mem_singleton,not_or]
  constructor
  ·rintro⟨⟨a1,a2,a3⟩,a4⟩;exact⟨a1,a2,a3,a4⟩
  ·rintro⟨a1,a2,a3,a4⟩;exact⟨⟨a1,a2,a3⟩,a4⟩
theorem qw1 {L:List Lk} {n:Int} {k:ByteArray} {a:Int}:mem (qss L n k) a↔∃l∈L,l.owner≠n∧klt k l.frm=false∧klt l.til k=false∧l.sp.lo≤a∧a≤l.sp.hi:=by
 unfold mem qss inS
 constructor
 ·rintro⟨s,hs,h1⟩;obtain⟨l,hl,rfl⟩:=List.mem_map.1 hs;obtain⟨hl,hc⟩:=List.mem_filter.1 hl;simp at hc;exact⟨l,hl,hc.1,hc.2.1,hc.2.2,h1⟩
 ·rintro⟨l,hl,h1,h2,h3,h4⟩;exact⟨l.sp,List.mem_map.2 ⟨l,List.mem_filter.2 ⟨hl,by simp [h1,h2,h3]⟩,rfl⟩,h4⟩
def ptF:List Sn→Int×Int
 | []=>(0,7)
 |s::_=>(s.lo,0)
theorem qjh.point {P:PM} (hok:P.Ok) {t:Tx} {n:Int} (hg:P.get n=some t) (hs:t.snap=false) {dk:List ByteArray} {dt:List Int} {fr:List Sn} (h:qjh P t n dk dt fr) (hk:∀k,k∈dk↔∃w∈t.wr,w.1=k) (ht:∀a,a∈dt↔a∈P.taken):P.point n=ptF fr:=by
 have key:∀a,mem fr a↔(t.sp.lo≤a∧a≤t.sp.hi)∧P.free n t a=true:= ?_
 ·have e:=qyq hok hg hs h.1 key;cases fr<;>exact e
 intro a;rw [h.2.2.2];refine and_congr_right λ_=> ?_
 unfold PM.free;simp only [Bool.and_eq_true,Bool.not_eq_true',decide_eq_false_iff_not,List.all_eq_true,Bool.or_eq_true,decide_eq_true_eq];rw [and_comm,ht];refine and_congr_right λ_=> ?_
 constructor
 ·intro h l hl w hw;have h1:=h w.1 ((hk _).2 ⟨w,hw,rfl⟩);rw [qw1] at h1;by_cases c1:l.owner=n
  ·simp [c1]
  ·cases c2:klt w.1 l.frm with
   |true=>simp
   |false=>
    cases c3:klt l.til w.1 with
    |true=>simp
    |false=>
     have:¬(l.sp.lo≤a∧a≤l.sp.hi):=λh2=>h1 ⟨l,hl,c1,c2,c3,h2⟩
     omega
 ·intro h k hkd hm;obtain⟨w,hw,rfl⟩:=(hk k).1 hkd;obtain⟨l,hl,h1,h2,h3,h4⟩:=qw1.1 hm;have:=h l hl w hw;simp [h1,h2,h3] at this;omega
def PtI (P:PM) (t:Tx) (n:Int) (W:Ml) (σ s:CSt) (it w:Nat) (m:Nat) (vo:Value):Prop:=∃D S fr,m=List.length S∧MIt Value.string s it w W S∧W.Perm (D++S)∧Sl s 97 2 encS vo fr∧qjh P t n (D.map (·.1)) [] fr∧Grow σ s
def PtJ (P:PM) (t:Tx) (n:Int) (dk:List ByteArray) (ks:List Int) (σ s:CSt) (it w:Nat) (m:Nat) (vo:Value):Prop:=∃D S fr,m=List.length S∧MIt (Value.int .u64) s it w (ks.map λa=>(a, .agg #[])) S∧(ks.map λa=>((a, .agg #[]):Int×Value)).Perm (D++S)∧Sl s 97 2 encS vo fr∧qjh P t n dk (D.map (·.1)) fr∧Grow σ s
theorem qqr {α:Type} [DecidableEq α]:∀{l m:List α},l.Nodup→(∀a∈l,a∈m)→l.length≤m.length
 | [],_,_,_=>by simp
 |a::l,m,hn,h=>by
  obtain⟨h1,h2⟩:=List.nodup_cons.1 hn;have ha:=h a (by simp)
  have ih:=qqr (m:=m.erase a) h2 λb hb=>(List.mem_erase_of_ne (by rintro rfl;exact h1 hb)).2 (h b (by simp [hb]))
  rw [List.length_erase_of_mem ha] at ih;have:0<m.length:=List.length_pos_of_mem ha;rw [List.length_cons];omega
theorem RGx.ks_le {F:Nat→Prop} {σ:CSt} {g sp ml mt:Nat} {v:Value} {X Wn:Int→Nat} {ks:List Int} {P:PM} (h:RGx F σ g sp ml mt v X Wn ks P):ks.length≤P.size:=by
 have h1:ks.length≤P.taken.length:=qqr (by
  obtain⟨es,c,_,h2⟩:=h.tk;have h3:=h2.keys;rw [List.map_map] at h3;have hid:ks.map ((λx=>x.1)∘λa=>((a, .agg #[]):Int×Value))=ks:=by
   conv=>rhs;rw [←List.map_id ks]
   rfl
  rw [hid] at h3;exact h3) λa ha=>(h.tkp a).1 ha
 unfold PM.size;omega
section
variable {F:Nat→Prop} {σ:CSt} {g sp ml mt:Nat} {v:Value} {X Wn:Int→Nat} {ks:List Int} {P:PM}
theorem qlq (h:RGx F σ g sp ml mt v X Wn ks P) (hn:gnone σ) (hok:P.Ok) (hsz:P.size<2^15) (n:Int) (Q:Out→CSt→Prop)
  (h1:∀σ',Grow σ σ'→Q (.ret (.tuple #[.int .u64 (P.point n).1, .int .i64 (P.point n).2]) false) σ'):W E1 (.fn 38 #[ptr g, .int .i64 n] none) σ Q:=by
 rw [qap (fn:=Tryz.f38) Tryz.func38 rfl rfl rfl];have hgt:=λQ=>qci h n Q
 unfold ptr at hgt;have hz:0<σ.n:=by have:=h.lt;omega
 have hks:ks.length<2^15:=Nat.lt_of_le_of_lt h.ks_le hsz;simp [qa0,ptr];refine hgt _ (λt ht=> ?_) λhn'=> ?_
 rotate_left
 ·have e:P.point n=(0,4):=by unfold PM.point;rw [hn']
  have:=h1 σ (Grow.refl _);rw [e] at this;simpa [qa0] using this
 have hm:=(qao hok).1 ht;have hto:=hok.tx _ hm;have htx:=h.lv.tx _ hm;simp only at hto htx;have hx:=htx.cell;have hxl:=htx.lx;have hck:=hok.clock;have hspok:t.sp.ok:=by
  unfold Sn.ok;cases hs:t.snap with
  |true=>have:=hto.s hs;omega
  |false=>have:=hto.w hs;omega
 have hLs:P.L.length<2^15:=by
  have:P.L.length≤P.size:=by unfold PM.size;omega
  omega
 have hwr:t.wr.length<2^15:=by have:=qw5 hm;simp only at this;omega
 have hLok:∀l∈P.L,l.sp.ok:=λl hl=>by have:=(hok.lk l hl).2;unfold Sn.ok;omega
 unfold qfo hdK at hx;have g0:Grow σ (σ.alloc (.cells (encS t.sp) 97 false)):=(Grow.refl σ).alloc _;have hs0:Sl (σ.alloc (.cells (encS t.sp) 97 false)) 97 2 encS (.slice (some ⟨σ.n,0,none⟩) 1 1) [t.sp]:=Sl.all (l:= [t.sp]) (i:=σ.n) (cap:=1) (ro:=false) lenS (by simp) (by simp) (.inr ⟨by simp,by simp [qa1]⟩)
 simp only [encS] at g0 hs0;simp [qa0,hx];generalize σ.alloc (.cells [.int .u64 t.sp.lo, .int .u64 t.sp.hi] 97 false)=s0 at g0 hs0⊢;refine qnz [t.sp] (by simpa using hspok) _ s0 hs0 (by simp) _ λv8 fr0 s1 hfr hfrk hfrl hov g1=> ?_
 have g01:=g0.trans g1;have hx1:=g01.get hx hxl;cases hs:t.snap with
 |true=>
  rw [hs] at hx1;have e:=qf0 ht hs;have:=h1 s1 g01;rw [e] at this;simpa [qa0,hx1] using this
 |false=>
  rw [hs] at hx1;obtain⟨hFw,hlw,W,hW,hp⟩:=htx.wr hs
  have hI0:qjh P t n [] [] fr0:=⟨hfr.1,hfrk,by simpa using hfrl,λa=>by
   rw [hfr.2];unfold mem inS
   simp⟩
  have hWl:W.length=t.wr.length:=by have:=hp.length_eq;rw [this];unfold qed;simp
  have hW1:MpG Value.string s1 (Wn n) W:=by
   obtain⟨es,ck,e1,e2⟩:=hW;exact⟨es,ck,g01.get e1 hlw,e2⟩
  have hlw1:Wn n<s1.n:=Nat.lt_of_lt_of_le hlw g01.n;obtain⟨o,ho,hit⟩:=qb3 (P:=Tryz.prog) (t:=111) Tryz.underlying111 hW1 hlw1;have hwv:wv t (Wn n)= .map (some (Wn n)):=by unfold wv;rw [hs];rfl
  rw [hwv] at hx1;simp [qa0,hx1,ho];have ga:Grow σ (s1.alloc o):=g01.alloc o;have hsa:Sl (s1.alloc o) 97 2 encS v8 fr0:=(hov.sl lenS).grow ((Grow.refl s1).alloc o);generalize hsae:s1.alloc o=sa at hit ga hsa⊢;have hsan:s1.n<sa.n:=by rw [←hsae];simp
  refine qak (λm a s=>∃tm vo,a=⟨tm,79, [],false⟩∧tm.get 0=some (.pointer (some ⟨g,0,none⟩))∧tm.get 1=some (.int .i64 n)∧tm.get 8=some vo∧tm.get 42=some (.pointer (some ⟨s1.n,0,none⟩))∧PtI P t n W σ s s1.n (Wn n) m vo∧s1.n<s.n)
   (λout s=>∃tm vo fr,out= .code (.exit 0) ⟨tm,79, [],false⟩∧tm.get 0=some (.pointer (some ⟨g,0,none⟩))∧tm.get 8=some vo∧Sl s 97 2 encS vo fr∧qjh P t n (W.map (·.1)) [] fr∧Grow σ s) ?_ (List.length W) _ _ ?_ ?_
  ·rintro m a s ⟨tm,vo,rfl,e0,e1,e8,e42,⟨D,S,fr,hm1,hi,hpm,hsl,hfi,gs⟩,hsn⟩;simp [qa0,e0,e1,e8,e42];refine qbb hi (λhS=> ?_) (λj hj o' hi' he=> ?_)
   ·subst hS;simp [qa0];refine⟨e0,vo,e8,fr,hsl, ?_,gs⟩;obtain⟨q1,q2,q3,q4⟩:=hfi;rw [List.append_nil] at hpm;refine⟨q1,q2,by rw [List.length_map,hpm.length_eq];simpa using q3,λa=> ?_⟩
    rw [q4];have:∀k,k∈W.map (·.1)↔k∈D.map (·.1):=λk=>(hpm.map _).mem_iff
    simp only [this]
   ·have gs':Grow σ (s.put s1.n o'):=gs.put g01.n _;have hsl':Sl (s.put s1.n o') 97 2 encS vo fr:=by
     rcases hsl with hq|⟨i,off,cap,row,ro,q1,q2,q3,q4⟩
     ·exact .inl hq
     ·refine .inr ⟨i,off,cap,row,ro,q1, ?_,q3,q4⟩;rw [CSt.get_put,if_neg]
      ·exact q2
      ·rintro rfl;obtain⟨_,_,_,_,_,q5,_⟩:=hi;rw [q2] at q5;cases q5
    have hrs:=h.grow gs';have hDl:D.length≤W.length:=by have:=hpm.length_eq;rw [List.length_append] at this;omega
    have hfl:fr.length<2^31:=by
     have h3:=hfi.2.2.1;rw [List.length_map] at h3;have h5:D.length*P.L.length≤2^15*2^15:=Nat.mul_le_mul (by omega) (by omega)
     have h6:([]:List Int).length=0:=rfl;omega
    have hkx:∃k u,S[j]=(k,u):=⟨_,_,rfl⟩
    obtain⟨k,u,hku⟩:=hkx;rw [hku] at he⊢;simp only at he;simp [qa0,he,e0,e1,e8,e42];refine qnw 0 g v P.L n k hLok _ hrs.tb (by omega) _ λv5 m5 s2 hm5 hm5k hm5l ho5 g2=> ?_
    simp [qa0];have hz2:0<s2.n:=by have:=g2.n;have:=gs'.n;omega
    refine qv9 fr m5 hfi.2.1 hm5k vo v5 s2 (qar hn hz (gs'.trans g2)) hz2 (hsl'.grow g2) (ho5.sl lenS) (by omega) (by omega) (fr.length+m5.length) (λj=>by
     have a1:=(qvh hfi.1.apt (m5.take j)).2;have a2:=List.length_take_le j m5;have a3:(m5.take j).length≤m5.length:=by rw [List.length_take];omega
     omega) (by omega) _ λv6 r s3 hr hrk hrl hor g3=> ?_
    simp [qa0,e0,e1,e42]
    refine⟨(S.eraseIdx j).length,by rw [hm1,List.length_eraseIdx_of_lt hj];omega,⟨D++ [(k,u)],S.eraseIdx j,r,rfl, ?_,hpm.trans (by
      rw [List.append_assoc];have:=qbn hj;rw [hku] at this
      exact List.Perm.append_left D this),hor.sl lenS, ?_,(gs'.trans g2).trans g3⟩, ?_⟩
    ·exact hi'.grow (by show s1.n<s.n;exact hsn) (by show Wn n<s.n;omega) (g2.trans g3)
    ·rw [List.map_append];exact hfi.key hm5 hm5l hr hrk hrl
    ·have:=g2.n;have:=g3.n;simp at this⊢;show s1.n<s3.n;have h8:(s.put s1.n o').n=s.n:=rfl;omega
  ·refine⟨_,v8,rfl, ?_⟩;simp;exact⟨⟨[],W,fr0,rfl,hit, .refl _,hsa,hI0,ga⟩,hsan⟩
  ·rintro out s ⟨tm,vo,fr,rfl,e0,e8,hsl,hfi,gs⟩;have hrs:=h.grow gs;have hgs:=hrs.cell;unfold ptr at hgs;obtain⟨o2,ho2,hit2⟩:=qb3 (P:=Tryz.prog) (t:=83) Tryz.underlying83 hrs.tk hrs.lm;simp [qa0,e0,e8,hgs,ho2];have gb:Grow σ (s.alloc o2):=gs.alloc o2;have hsb:Sl (s.alloc o2) 97 2 encS vo fr:=hsl.grow ((Grow.refl s).alloc o2);generalize hsbe:s.alloc o2=sb at hit2 gb hsb⊢;have hsbn:s.n<sb.n:=by rw [←hsbe];simp
   have hmts:mt<s.n:=hrs.lm;have hdl:(W.map (·.1)).length*P.L.length≤2^15*2^15:=Nat.mul_le_mul (by rw [List.length_map];omega) (by omega)
   refine qak (λm a s'=>∃tm vo,a=⟨tm,79, [],false⟩∧tm.get 8=some vo∧tm.get 59=some (.pointer (some ⟨s.n,0,none⟩))∧PtJ P t n (W.map (·.1)) ks σ s' s.n mt m vo∧s.n<s'.n)
    (λout s'=>∃tm vo fr,out= .code (.exit 2) ⟨tm,79, [],false⟩∧tm.get 8=some vo∧Sl s' 97 2 encS vo fr∧qjh P t n (W.map (·.1)) ks fr∧Grow σ s') ?_ ks.length _ _ ?_ ?_
   ·rintro m a s2 ⟨tm,vo,rfl,e8,e59,⟨D,S,fr,hm1,hi,hpm,hsl,hfi,gs2⟩,hsn⟩;simp [qa0,e8,e59];refine qbb hi (λhS=> ?_) (λj hj o' hi' he=> ?_)
    ·subst hS;simp [qa0];refine⟨vo,e8,fr,hsl, ?_,gs2⟩;obtain⟨q1,q2,q3,q4⟩:=hfi;rw [List.append_nil] at hpm;have hpk:=hpm.map (·.1)
     rw [List.map_map] at hpk;have hid:ks.map ((λx=>x.1)∘λa=>((a, .agg #[]):Int×Value))=ks:=by
      conv=>rhs;rw [←List.map_id ks]
      rfl
     rw [hid] at hpk;refine⟨q1,q2,by rw [hpk.length_eq];exact q3,λa=> ?_⟩
     rw [q4,hpk.mem_iff]
    ·have gs':Grow σ (s2.put s.n o'):=gs2.put gs.n _;have hsl':Sl (s2.put s.n o') 97 2 encS vo fr:=by
      rcases hsl with hq|⟨i,off,cap,row,ro,q1,q2,q3,q4⟩
      ·exact .inl hq
      ·refine .inr ⟨i,off,cap,row,ro,q1, ?_,q3,q4⟩;rw [CSt.get_put,if_neg]
       ·exact q2
       ·rintro rfl;obtain⟨_,_,_,_,_,q5,_⟩:=hi;rw [q2] at q5;cases q5
     have hDl:D.length≤ks.length:=by have:=hpm.length_eq;rw [List.length_append,List.length_map] at this;omega
     have hfl:fr.length<2^31:=by
      have h3:=hfi.2.2.1;rw [List.length_map (f:=λx:Int×Value=>x.1)] at h3
      omega
     have hSm:S[j]∈ks.map λa=>((a, .agg #[]):Int×Value):=hpm.mem_iff.2 (by simp)
     obtain⟨b,hb,hbe⟩:=List.mem_map.1 hSm;have hbt:=hok.tk b ((h.tkp b).1 hb);have hku:S[j]=(b, .agg #[]):=hbe.symm;rw [hku] at he⊢;simp only at he;have g5:Grow (s2.put s.n o') ((s2.put s.n o').alloc (.cells (encS ⟨b,b⟩) 97 false)):=(Grow.refl _).alloc _;have hs5:Sl ((s2.put s.n o').alloc (.cells (encS ⟨b,b⟩) 97 false)) 97 2 encS (.slice (some ⟨s2.n,0,none⟩) 1 1) [(⟨b,b⟩:Sn)]:=Sl.all (l:= [(⟨b,b⟩:Sn)]) (i:=s2.n) (cap:=1) (ro:=false) lenS (by simp) (by simp) (.inr ⟨by simp,by simp [qa1]⟩)
     simp only [encS] at g5 hs5;simp [qa0,he,e8,e59];generalize (s2.put s.n o').alloc (.cells [.int .u64 b, .int .u64 b] 97 false)=s5 at g5 hs5⊢;refine qnz [(⟨b,b⟩:Sn)] (by simp [Sn.ok];omega) _ s5 hs5 (by simp) _ λv5 m5 s6 hm5 hm5k hm5l ho5 g6=> ?_
     have g56:=g5.trans g6;have g26:Grow σ s6:=gs'.trans g56;simp at hm5l;simp [qa0]
     refine qv9 fr m5 hfi.2.1 hm5k vo v5 s6 (qar hn hz g26) (by have:=g26.n;omega) (hsl'.grow g56) (ho5.sl lenS) (by omega) (by omega) (fr.length+m5.length) (λj=>by
      have a1:=(qvh hfi.1.apt (m5.take j)).2;have a3:(m5.take j).length≤m5.length:=by rw [List.length_take];omega
      omega) (by omega) _ λv6 r s7 hr hrk hrl hor g7=> ?_
     simp [qa0,e59]
     refine⟨(S.eraseIdx j).length,by rw [hm1,List.length_eraseIdx_of_lt hj];omega,⟨D++ [(b, .agg #[])],S.eraseIdx j,r,rfl, ?_,hpm.trans (by
       rw [List.append_assoc];have:=qbn hj;rw [hku] at this
       exact List.Perm.append_left D this),hor.sl lenS, ?_,g26.trans g7⟩, ?_⟩
     ·exact hi'.grow (by show s.n<s2.n;exact hsn) (by show mt<s2.n;omega) (g56.trans g7)
     ·rw [List.map_append];exact hfi.time hm5 hm5l hr hrk hrl
     ·have h8:(s2.put s.n o').n=s2.n:=rfl;have:=g56.n;have:=g7.n;omega
   ·refine⟨_,vo,rfl, ?_⟩;simp;exact⟨e8,⟨[],ks.map λa=>(a, .agg #[]),fr,by simp,hit2, .refl _,hsb,hfi,gb⟩,hsbn⟩
   ·rintro out s2 ⟨tm,vo,fr,rfl,e8,hsl,hfi,gs2⟩
    have hpt:=hfi.point hok ht hs (λk=>by
     rw [(hp.map _).mem_iff];unfold qed;rw [List.map_map,List.mem_map]
     rfl) h.tkp
    have hfl:fr.length<2^31:=by
     have h3:=hfi.2.2.1;omega
    have fin:=h1 s2 gs2;rw [hpt] at fin;simp [qa0,e8];refine qxm fr vo s2 hsl (by omega) _ ?_
    cases fr with
    |nil=>simpa [qa0,ptF] using fin
    |cons s fr=>simpa [qa0,ptF] using fin
end
def qhi (s s':CSt):Prop:=s.n≤s'.n∧(∀j,j<s.n→∀row e ro,s.get j=some (.cells row e ro)→s'.get j=some (.cells row e ro))∧∀j,j<s.n→∀es c,s.get j=some (.map es c)→s'.get j=some (.map es c)
section
variable {s s':CSt}
theorem MIt.cm {κ:Type} {key:κ→Value} {r m:Nat} {M S:MlG κ} (h:MIt key s r m M S) (o:CObj):qhi s (s.put r o):=by
 obtain⟨_,_,_,_,_,h5,_⟩:=h;refine⟨Nat.le_refl _,λj hj row e ro hg=> ?_,λj hj es c hg=> ?_⟩
 ·rw [CSt.get_put,if_neg (by rintro rfl;rw [hg] at h5;cases h5)];exact hg
 ·rw [CSt.get_put,if_neg (by rintro rfl;rw [hg] at h5;cases h5)];exact hg
theorem Sl.cm {α:Type} {e:TypeId} {sz:Nat} {enc:α→List Value} {v:Value} {l:List α} (h:Sl s e sz enc v l) (k:qhi s s'):Sl s' e sz enc v l:=by
 rcases h with h|⟨i,off,cap,row,ro,h1,h2,h3,h4⟩
 ·exact .inl h
 ·exact .inr ⟨i,off,cap,row,ro,h1,k.2.1 _ h3 _ _ _ h2,Nat.lt_of_lt_of_le h3 k.1,h4⟩
theorem qbj.cm {α:Type} {b:Nat} {e:TypeId} {enc:α→List Value} {v:Value} {l:List α} (h:qbj b s e enc v l) (k:qhi s s'):qbj b s' e enc v l:=by
 rcases h with h|⟨i,cap,zs,h1,h2,h3,h4,h5⟩
 ·exact .inl h
 ·exact .inr ⟨i,cap,zs,h1,h2,Nat.lt_of_lt_of_le h3 k.1,k.2.1 _ h3 _ _ _ h4,h5⟩
theorem MpG.cm {κ:Type} {key:κ→Value} {m:Nat} {L:MlG κ} (h:MpG key s m L) (hm:m<s.n) (k:qhi s s'):MpG key s' m L:=by
 obtain⟨es,c,h1,h2⟩:=h;exact⟨es,c,k.2.2 _ hm _ _ h1,h2⟩
theorem TxR.cm {hd:Bool→Value} {ty:TypeId} {F:Nat→Prop} {t:Tx} {x w:Nat} (h:TxR hd ty F s t x w) (k:qhi s s'):TxR hd ty F s' t x w:=
 ⟨h.fx,Nat.lt_of_lt_of_le h.lx k.1,k.2.1 _ h.lx _ _ _ h.cell,λhs=>by
  obtain⟨a,b,W,c,d⟩:=h.wr hs
  exact⟨a,Nat.lt_of_lt_of_le b k.1,W,c.cm b k,d⟩⟩
theorem Lv.cm {hd:Bool→Value} {ty:TypeId} {F:Nat→Prop} {ml:Nat} {X Wn:Int→Nat} {live:List (Int×Tx)} (h:Lv hd ty F s ml X Wn live) (k:qhi s s'):Lv hd ty F s' ml X Wn live:=
 ⟨h.fm,Nat.lt_of_lt_of_le h.lm k.1,h.map.cm h.lm k,λq hq=>(h.tx q hq).cm k,h.injX,h.injW,h.wml⟩
theorem St.cm {F:Nat→Prop} {i:Nat} {S:Stl} (h:St F s i S) (k:qhi s s'):St F s' i S:=by
 obtain⟨vr,R,h0,h1,h2,h3,h4,h5⟩:=h;exact⟨vr,R,h0,h1,Nat.lt_of_lt_of_le h2 k.1,k.2.1 _ h2 _ _ _ h3,h4.cm k,h5.1,λj a b=>⟨(h5.2 j a b).1,(h5.2 j a b).2.cm k⟩⟩
theorem RGx.cm {F:Nat→Prop} {g sp ml mt:Nat} {v:Value} {X Wn:Int→Nat} {ks:List Int} {P:PM} (h:RGx F s g sp ml mt v X Wn ks P) (k:qhi s s'):RGx F s' g sp ml mt v X Wn ks P:=
 ⟨h.fg,⟨k.2.1 _ h.lt _ _ _ h.cell,h.tb.2.1,Nat.lt_of_lt_of_le h.lt k.1,h.own.cm k⟩,h.fv,h.st.cm k,h.lv.cm k,h.fm,Nat.lt_of_lt_of_le h.lm k.1,h.tk.cm h.lm k,h.tkp,h.tml,h.tw⟩
end
theorem qus:∀{S:Stl},(∀s∈S,s.2≠ [])→S.length≤vsz S
 | [],_=>by simp
 |s::S,h=>by
  have h1:=qus (S:=S) λx hx=>h x (by simp [hx])
  have h2:=h s (by simp)
  have:0<s.2.length:=List.length_pos_iff.2 h2;simp [vsz] at h1⊢;omega
theorem qxp {S:Stl} {s:ByteArray×List Ver} (h:s∈S):s.2.length≤vsz S:=by
 unfold vsz;exact qlr (List.mem_map.2 ⟨s,h,rfl⟩)
end Go.Sm
namespace Go.Sm
set_option maxRecDepth 100000
set_option maxHeartbeats 4000000
def Uni (l:List Ver):Prop:=l.Pairwise λa b=>a.at_≠b.at_
theorem Uni.snoc {l:List Ver} {v:Ver} (h:Uni (l++ [v])):Uni l∧∀u∈l,u.at_≠v.at_:=by
 obtain⟨h1,_,h3⟩:=List.pairwise_append.1 h;exact⟨h1,λu hu=>h3 u hu v (by simp)⟩
theorem qde:∀(l:List Ver),Uni l→∀u,u∈qcs l↔u∈l:=by
 intro l;refine qo5 (P:=λl=>Uni l→∀u,u∈qcs l↔u∈l) (λ_ u=>by simp [qcs]) (λl v ih h u=> ?_) l
 obtain⟨h1,h2⟩:=h.snoc;rw [qh3,qsw,ih h1,List.mem_append,List.mem_singleton]
 constructor
 ·rintro(h|⟨h,_⟩)
  ·exact .inr h
  ·exact .inl h
 ·rintro(h|h)
  ·exact .inr ⟨h,h2 u h⟩
  ·exact .inl h
theorem len_put {c:List Ver} {v:Ver} (h:∀u∈c,u.at_≠v.at_):(qfl c v).length=c.length+1:=by
 unfold qfl;rw [List.length_append,List.length_cons]
 induction c with
 |nil=>rfl
 |cons x c ih=>
  have hx:=h x (by simp)
  have:=ih λu hu=>h u (by simp [hu])
  rcases Int.lt_or_gt_of_ne hx with e|e
  ·have e2:¬v.at_<x.at_:=by omega
   simp only [List.filter_cons,e,e2,decide_true,decide_false,if_true,Bool.false_eq_true,if_false,List.length_cons];omega
  ·have e2:¬x.at_<v.at_:=by omega
   have e3:v.at_<x.at_:=by omega
   simp only [List.filter_cons,e3,e2,decide_true,decide_false,if_true,Bool.false_eq_true,if_false,List.length_cons];omega
theorem qgx:∀(l:List Ver),Uni l→(qcs l).length=l.length:=by
 intro l;refine qo5 (P:=λl=>Uni l→(qcs l).length=l.length) (λ_=>rfl) (λl v ih h=> ?_) l
 obtain⟨h1,h2⟩:=h.snoc;rw [qh3,len_put λu hu=>h2 u ((qde l h1 u).1 hu),ih h1]
 simp
theorem qty:∀{c d:List Ver},Srt c→Srt d→(∀u,u∈c↔u∈d)→c=d
 | [], [],_,_,_=>rfl
 | [],q::m,_,_,h=>by have:=(h q).2 (by simp);cases this
 |p::l, [],_,_,h=>by have:=(h p).1 (by simp);cases this
 |p::l,q::m,hl,hm,h=>by
  obtain⟨l1,l2⟩:=List.pairwise_cons.1 hl;obtain⟨m1,m2⟩:=List.pairwise_cons.1 hm;have e:p=q:=by
   rcases List.mem_cons.1 ((h p).1 (by simp)) with e|hp
   ·exact e
   ·rcases List.mem_cons.1 ((h q).2 (by simp)) with e|hq
    ·exact e.symm
    ·have h1:=l1 q hq;have h2:=m1 p hp;omega
  subst e
  congr 1
  refine qty l2 m2 λr=> ?_
  have hr:=h r;simp only [List.mem_cons] at hr
  constructor
  ·intro hr1;rcases hr.1 (.inr hr1) with e|h2
   ·have:=l1 r hr1;rw [e] at this;omega
   ·exact h2
  ·intro hr1;rcases hr.2 (.inr hr1) with e|h2
   ·have:=m1 r hr1;rw [e] at this;omega
   ·exact h2
def atM (l:List Ver) (t:Int):Option Ver:=l.foldl (λo v=>if v.at_≤t∧(o=none∨∃u,o=some u∧u.at_<v.at_) then some v else o) none
theorem qvz (l:List Ver) (v:Ver) (t:Int):atM (l++ [v]) t=if v.at_≤t∧(atM l t=none∨∃u,atM l t=some u∧u.at_<v.at_) then some v else atM l t:=by
 unfold atM;rw [List.foldl_append]
 rfl
theorem atM_max (t:Int):∀(l:List Ver),(atM l t=none∧∀u∈l,¬u.at_≤t)∨∃a,atM l t=some a∧a∈l∧a.at_≤t∧∀u∈l,u.at_≤t→u.at_≤a.at_:=by
 intro l;refine qo5 (P:=λl=>(atM l t=none∧∀u∈l,¬u.at_≤t)∨∃a,atM l t=some a∧a∈l∧a.at_≤t∧∀u∈l,u.at_≤t→u.at_≤a.at_) (.inl ⟨rfl,by simp⟩) (λl v ih=> ?_) l
 rw [qvz];rcases ih with⟨h1,h2⟩|⟨a,h1,h2,h3,h4⟩
 ·by_cases e:v.at_≤t
  ·rw [if_pos ⟨e, .inl h1⟩];refine .inr ⟨v,rfl,by simp,e,λu hu hut=> ?_⟩
   rcases List.mem_append.1 hu with hu|hu
   ·exact absurd hut (h2 u hu)
   ·rw [List.mem_singleton.1 hu];exact Int.le_refl _
  ·rw [if_neg λh=>e h.1]
   refine .inl ⟨h1,λu hu=> ?_⟩
   rcases List.mem_append.1 hu with hu|hu
   ·exact h2 u hu
   ·rw [List.mem_singleton.1 hu];exact e
 ·by_cases e:v.at_≤t∧a.at_<v.at_
  ·rw [if_pos ⟨e.1, .inr ⟨a,h1,e.2⟩⟩];refine .inr ⟨v,rfl,by simp,e.1,λu hu hut=> ?_⟩
   rcases List.mem_append.1 hu with hu|hu
   ·have:=h4 u hu hut;omega
   ·rw [List.mem_singleton.1 hu];exact Int.le_refl _
  ·have e':¬(v.at_≤t∧(atM l t=none∨∃u,atM l t=some u∧u.at_<v.at_)):=by
    rintro⟨k1,k2|⟨u,k2,k3⟩⟩
    ·rw [h1] at k2;cases k2
    ·rw [h1] at k2;cases k2;exact e ⟨k1,k3⟩
   rw [if_neg e'];refine .inr ⟨a,h1,List.mem_append_left _ h2,h3,λu hu hut=> ?_⟩
   rcases List.mem_append.1 hu with hu|hu
   ·exact h4 u hu hut
   ·rw [List.mem_singleton.1 hu] at hut⊢;omega
theorem atM_eq {l:List Ver} (h:Uni l) (t:Int):atM l t=atL (qcs l) t:=by
 rcases atM_max t l with⟨h1,h2⟩|⟨a,h1,h2,h3,h4⟩
 ·rw [h1];exact(qur.2 λu hu=>h2 u ((qde l h u).1 hu)).symm
 ·rw [h1];exact(qul (qf3 l) ((qde l h a).2 h2) h3 λu hu=>h4 u ((qde l h u).1 hu)).symm
theorem mem_cut {c:List Ver} (hs:Srt c) (t:Int) (u:Ver):u∈qer c t↔u∈c∧(t<u.at_∨(atL c t=some u∧u.gone=false)):=by
 obtain⟨s,e1,e2⟩:=qqy hs t;have hw:=List.pairwise_iff_getElem.1 hs;have key:∀i (hi:i<c.length),(t<c[i].at_∨(atL c t=some c[i]∧c[i].gone=false))↔s≤i:=λi hi=>by
  rw [←e2 i hi];by_cases ht:t<c[i].at_
  ·exact⟨λ_=> .inl ht,λ_=> .inl ht⟩
  ·have hlast:atL c t=some c[i]↔¬∃h:i+1<c.length,c[i+1].at_≤t:=by
    constructor
    ·rintro h ⟨h1,h2⟩;have h3:=(qsc hs h).2.2 _ (List.getElem_mem h1) h2;have h4:=hw i (i+1) hi h1 (by omega)
     omega
    ·intro h;refine qul hs (List.getElem_mem hi) (by omega) λu hu hut=> ?_
     obtain⟨j,hj,rfl⟩:=List.getElem_of_mem hu;rcases Nat.lt_trichotomy j i with hlt|rfl|hlt
     ·have:=hw j i hj hi hlt;omega
     ·exact Int.le_refl _
     ·exfalso;refine h ⟨by omega, ?_⟩
      rcases Nat.lt_or_ge (i+1) j with h5|h5
      ·have:=hw (i+1) j (by omega) hj h5;omega
      ·have:j=i+1:=by omega
       subst this;exact hut
   rw [hlast]
 rw [e1]
 constructor
 ·intro hu;obtain⟨j,hj,rfl⟩:=List.getElem_of_mem hu;rw [List.getElem_drop];rw [List.length_drop] at hj;exact⟨List.getElem_mem _,(key (s+j) (by omega)).2 (by omega)⟩
 ·rintro⟨hu,h⟩;obtain⟨i,hi,rfl⟩:=List.getElem_of_mem hu;have hsi:=(key i hi).1 h;have:=List.getElem_mem (l:=c.drop s) (n:=i-s) (by rw [List.length_drop];omega)
  rw [List.getElem_drop] at this;simpa [Nat.add_sub_cancel' hsi] using this
def qcg (l:List Ver) (t:Int):List Ver:=l.filter λv=>decide (t<v.at_)||(decide (atM l t=some v)&& !v.gone)
theorem Uni.left {l:List Ver} (h:Uni l) (t:Int):Uni (qcg l t):=List.Pairwise.filter _ h
theorem qt2 {l:List Ver} (h:Uni l) (t:Int):qcs (qcg l t)=qer (qcs l) t:=by
 obtain⟨s,hs⟩:=qok (qf3 l) t;refine qty (qf3 _) (by rw [hs];exact List.Pairwise.sublist (List.drop_sublist _ _) (qf3 l)) λu=> ?_
 rw [qde _ (h.left t),mem_cut (qf3 l),qde _ h];unfold qcg;rw [List.mem_filter,atM_eq h];simp
theorem went_eq {l:List Ver} (h:Uni l) (t:Int):l.length-(qcg l t).length=(qcs l).length-(qer (qcs l) t).length:=by
 rw [←qt2 h,qgx _ h,qgx _ (h.left t)]
end Go.Sm
namespace Go.Sm
open Go Go.Proofs
set_option maxRecDepth 100000
set_option maxHeartbeats 4000000
def qg5 (a:Int):List Value:= [.int .u64 a]
theorem qru (a:Int):(qg5 a).length=1:=rfl
theorem cokN (a:Int):qc9 (qg5 a)=true:=rfl
abbrev Vl:=List (ByteArray×List Ver)
def VRel (VL:Vl) (S:Stl):Prop:=(VL.map λq=>(q.1,qcs q.2)).Perm S∧∀q∈VL,Uni q.2
structure RMx (F:Nat→Prop) (σ:CSt) (m mv ml:Nat) (lv tv:Value) (X Wn:Int→Nat) (Sv:ByteArray→Value) (VL:Vl) (P:PM):Prop where
 fm:F m
 lm:m<σ.n
 cell:σ.get m=some (.cells [.map (some mv),lv, .int .u64 P.clock, .int .i64 P.last, .map (some ml),tv] 107 false)
 lo:qbj 0 σ 99 qag lv P.L
 flo:inF F lv
 to_:qbj 0 σ 22 qg5 tv P.taken
 fto:inF F tv
 lv:Lv hdB 113 F σ ml X Wn P.live
 fv:F mv
 lmv:mv<σ.n
 vers:MpG Value.string σ mv (VL.map λq=>(q.1,Sv q.1))
 vs:∀q∈VL,Sl σ 40 3 qad (Sv q.1) q.2
 rel:VRel VL P.S
 mml:mv≠ml
 mw:∀q∈P.live,q.2.snap=false→Wn q.1≠mv
def RM (F:Nat→Prop) (σ:CSt) (m:Nat) (P:PM):Prop:=∃mv ml lv tv X Wn Sv VL,RMx F σ m mv ml lv tv X Wn Sv VL P
def mT (t:TypeId):Prop:=t=107∨t=99∨t=22∨t=113
theorem mTver:¬mT 40:=by unfold mT;decide
section
variable {T:TypeId→Prop} {M F F':Nat→Prop} {s s0 s1 s':CSt} {m mv ml:Nat} {lv tv:Value} {X Wn:Int→Nat} {Sv:ByteArray→Value} {VL:Vl} {P:PM}
theorem RMx.chF (h:RMx F s0 m mv ml lv tv X Wn Sv VL P) (k:Ch T M F' s0 s1) (hF:∀j,j<s0.n→F j→F' j→False) (ht:¬T 40):RMx F s1 m mv ml lv tv X Wn Sv VL P:=
 ⟨h.fm,Nat.lt_of_lt_of_le h.lm k.1,k.cell h.cell h.lm λa=>absurd a λa=>hF _ h.lm h.fm a,h.lo.ch k λj hj a=>absurd a λa=>hF _ (h.lo.lt hj).2.1 (h.flo j hj) a,h.flo,h.to_.ch k λj hj a=>absurd a λa=>hF _ (h.to_.lt hj).2.1 (h.fto j hj) a,h.fto,
  ⟨h.lv.fm,Nat.lt_of_lt_of_le h.lv.lm k.1,h.lv.map.ch h.lv.lm k λa _=>hF _ h.lv.lm h.lv.fm a,λq hq=>(h.lv.tx q hq).ch k (λb c=>absurd c λc=>hF _ (h.lv.tx q hq).lx b c) λhs b c=>absurd c λc=>hF _ ((h.lv.tx q hq).wr hs).2.1 b c,h.lv.injX,h.lv.injW,h.lv.wml⟩,
  h.fv,Nat.lt_of_lt_of_le h.lmv k.1,h.vers.ch h.lmv k λa _=>hF _ h.lmv h.fv a,λq hq=>(h.vs q hq).chT k ht,h.rel,h.mml,h.mw⟩
theorem RMx.grow (h:RMx F s0 m mv ml lv tv X Wn Sv VL P) (k:Grow s0 s1):RMx F s1 m mv ml lv tv X Wn Sv VL P:=h.chF (T:=λ_=>False) (M:=noM) (F':=λ_=>False) k.ch (λ_ _ _ h=>h) (λh=>h)
theorem RMx.mono (h:RMx F s m mv ml lv tv X Wn Sv VL P) (hF:∀j,j<s.n→F j→F' j):RMx F' s m mv ml lv tv X Wn Sv VL P:=
 ⟨hF _ h.lm h.fm,h.lm,h.cell,h.lo,λj hj=>hF j (h.lo.lt hj).2.1 (h.flo j hj),h.to_,λj hj=>hF j (h.to_.lt hj).2.1 (h.fto j hj),h.lv.mono hF,hF _ h.lmv h.fv,h.lmv,h.vers,h.vs,h.rel,h.mml,h.mw⟩
theorem RMx.cm (h:RMx F s m mv ml lv tv X Wn Sv VL P) (k:qhi s s'):RMx F s' m mv ml lv tv X Wn Sv VL P:=
 ⟨h.fm,Nat.lt_of_lt_of_le h.lm k.1,k.2.1 _ h.lm _ _ _ h.cell,h.lo.cm k,h.flo,h.to_.cm k,h.fto,h.lv.cm k,h.fv,Nat.lt_of_lt_of_le h.lmv k.1,h.vers.cm h.lmv k,λq hq=>(h.vs q hq).cm k,h.rel,h.mml,h.mw⟩
theorem RM.grow (h:RM F s0 m P) (k:Grow s0 s1):RM F s1 m P:=by
 obtain⟨mv,ml,lv,tv,X,Wn,Sv,VL,h⟩:=h;exact⟨mv,ml,lv,tv,X,Wn,Sv,VL,h.grow k⟩
theorem RM.chF (h:RM F s0 m P) (k:Ch T M F' s0 s1) (hF:∀j,j<s0.n→F j→F' j→False) (ht:¬T 40):RM F s1 m P:=by
 obtain⟨mv,ml,lv,tv,X,Wn,Sv,VL,h⟩:=h;exact⟨mv,ml,lv,tv,X,Wn,Sv,VL,h.chF k hF ht⟩
theorem RM.mono (h:RM F s m P) (hF:∀j,j<s.n→F j→F' j):RM F' s m P:=by
 obtain⟨mv,ml,lv,tv,X,Wn,Sv,VL,h⟩:=h;exact⟨mv,ml,lv,tv,X,Wn,Sv,VL,h.mono hF⟩
theorem RMx.setLT (h:RMx F s m mv ml lv tv X Wn Sv VL P) (k:Ch (λt=>t=107∨t=99∨t=22) noM F s s') {c la:Int} {lv' tv':Value} {L':List Lk} {tk':List Int} (hc:s'.get m=some (.cells [.map (some mv),lv', .int .u64 c, .int .i64 la, .map (some ml),tv'] 107 false))
  (hl:qbj 0 s' 99 qag lv' L') (hfl:inF F lv') (ht:qbj 0 s' 22 qg5 tv' tk') (hft:inF F tv'):RMx F s' m mv ml lv' tv' X Wn Sv VL {P with L:=L',taken:=tk',clock:=c,last:=la}:=
 ⟨h.fm,Nat.lt_of_lt_of_le h.lm k.1,hc,hl,hfl,ht,hft,h.lv.ch k (λ_ _ _=>by decide) λ_ _ _ h=>h.elim,h.fv,Nat.lt_of_lt_of_le h.lmv k.1,h.vers.ch h.lmv k λ_ h=>h,λq hq=>(h.vs q hq).chT k (by decide),h.rel,h.mml,h.mw⟩
theorem qz3 (k:Ch (λt=>t=107∨t=99∨t=22) noM F s s'):Ch mT qcd F s s':=k.mono (λ_ h=>h.elim .inl λh=>h.elim (λh=> .inr (.inl h)) λh=> .inr (.inr (.inl h))) (λ_ _=>trivial) λ_ h=>h
theorem RMx.setC (h:RMx F s m mv ml lv tv X Wn Sv VL P) (c la:Int):RMx F (s.put m (.cells [.map (some mv),lv, .int .u64 c, .int .i64 la, .map (some ml),tv] 107 false)) m mv ml lv tv X Wn Sv VL {P with clock:=c,last:=la}:=by
 have k:Ch (λt=>t=107) noM F s (s.put m (.cells [.map (some mv),lv, .int .u64 c, .int .i64 la, .map (some ml),tv] 107 false)):=(Ch.refl (λt=>t=107) noM F s).put h.cell rfl h.fm _
 exact h.setLT (k.mono (λ_ h=> .inl h) (λ_ h=>h) λ_ h=>h) (by simp) (h.lo.chT k (by decide)) h.flo (h.to_.chT k (by decide)) h.fto
theorem RMx.chC (h:RMx F s m mv ml lv tv X Wn Sv VL P) (o:CObj):Ch mT qcd F s (s.put m o):=(Ch.refl _ _ _ _).put h.cell (.inl rfl) h.fm _
theorem RMx.lvCh (h:RMx F s m mv ml lv tv X Wn Sv VL P) (k:Ch (λt=>t=113) (λj=>j≠mv) F s s') {X' Wn':Int→Nat} {live':List (Int×Tx)} (hlv:Lv hdB 113 F s' ml X' Wn' live') (tw:∀q∈live',q.2.snap=false→Wn' q.1≠mv):RMx F s' m mv ml lv tv X' Wn' Sv VL {P with live:=live'}:=
 ⟨h.fm,Nat.lt_of_lt_of_le h.lm k.1,k.cell h.cell h.lm λ_=>by decide,h.lo.chT k (by decide),h.flo,h.to_.chT k (by decide),h.fto,hlv,h.fv,Nat.lt_of_lt_of_le h.lmv k.1,h.vers.ch h.lmv k λ_ h=>h rfl,λq hq=>(h.vs q hq).chT k (by decide),h.rel,h.mml,tw⟩
theorem qn7 (k:Ch (λt=>t=113) (λj=>j≠mv) F s s'):Ch mT qcd F s s':=k.mono (λ_ h=> .inr (.inr (.inr h))) (λ_ _=>trivial) λ_ h=>h
theorem RMx.chMl (h:RMx F s m mv ml lv tv X Wn Sv VL P) (o:CObj):Ch (λt=>t=113) (λj=>j≠mv) F s (s.put ml o):=(Ch.refl (λt=>t=113) (λj=>j≠mv) F s).putMp h.lv.map (λe=>h.mml e.symm) h.lv.fm _
theorem RMx.setV (h:RMx F s m mv ml lv tv X Wn Sv VL P) (k:Ch (λ_=>False) (λj=>j=mv) F s s') {Sv':ByteArray→Value} {VL':Vl} {S':Stl} (hm:MpG Value.string s' mv (VL'.map λq=>(q.1,Sv' q.1))) (hv:∀q∈VL',Sl s' 40 3 qad (Sv' q.1) q.2) (hr:VRel VL' S'):RMx F s' m mv ml lv tv X Wn Sv' VL' {P with S:=S'}:=
 ⟨h.fm,Nat.lt_of_lt_of_le h.lm k.1,k.cell h.cell h.lm λ_ h=>h,h.lo.chT k λh=>h,h.flo,h.to_.chT k λh=>h,h.fto,h.lv.ch k (λ_ _ _ h=>h) λj _ _ e=>⟨by rw [e];exact h.mml,λq hq hs=>by rw [e];exact h.mw q hq hs⟩,h.fv,Nat.lt_of_lt_of_le h.lmv k.1,hm,hv,hr,h.mml,h.mw⟩
theorem mT_v (k:Ch (λ_=>False) (λj=>j=mv) F s s'):Ch mT qcd F s s':=k.mono (λ_ h=>h.elim) (λ_ _=>trivial) λ_ h=>h
theorem qd3.chLock {v:Value} {L:List Lk} (h:qbj 0 s 99 qag v L) (k:qd3 v s s') (hF:inF F v):Ch (λt=>t=107∨t=99∨t=22) noM F s s':=h.butV k hF (.inr (.inl rfl))
theorem qd3.chNum {v:Value} {L:List Int} (h:qbj 0 s 22 qg5 v L) (k:qd3 v s s') (hF:inF F v):Ch (λt=>t=107∨t=99∨t=22) noM F s s':=h.butV k hF (.inr (.inr rfl))
end
theorem qyo (F:Nat→Prop) (σ:CSt) (hF:∀i,σ.n≤i→F i) (Q:Out→CSt→Prop) (h:∀m σ',RM F σ' m PM.new→σ.n≤m→Grow σ σ'→Q (.ret (ptr m) false) σ'):W E1 (.fn 35 #[] none) σ Q:=by
 rw [qap (fn:=Tryz.f35) Tryz.func35 rfl rfl rfl];have g:Grow σ (((σ.alloc (.map #[] 0)).alloc (.map #[] 0)).alloc (.cells [.map (some σ.n), .slice none 0 0, .int .u64 0, .int .i64 0, .map (some (σ.n+1)), .slice none 0 0] 107 false)):=(((Grow.refl σ).alloc _).alloc _).alloc _
 have:=h (σ.n+2) _ ⟨σ.n,σ.n+1, .slice none 0 0, .slice none 0 0,λ_=>0,λ_=>0,λ_=> .slice none 0 0, [],hF _ (by omega),by simp,by simp [PM.new],qbj.nil,qob,qbj.nil,qob,
  ⟨hF _ (by omega),(by simp<;>omega),⟨#[],0,(by simp<;>omega),qdp _ _⟩,(λq hq=>by cases hq),(λq hq=>by cases hq),(λq hq=>by cases hq),(λq hq=>by cases hq)⟩,hF _ (Nat.le_refl _),(by simp<;>omega),⟨#[],0,(by simp<;>omega),qdp _ _⟩,(λq hq=>by cases hq),⟨.refl _,(λq hq=>by cases hq)⟩,by omega,(λq hq=>by cases hq)⟩ (by omega) g
 simpa [qa0,qcf Tryz.underlying101,qcf Tryz.underlying104,ptr,Nat.add_assoc] using this
section
variable {F:Nat→Prop} {σ:CSt} {m mv ml:Nat} {lv tv:Value} {X Wn:Int→Nat} {Sv:ByteArray→Value} {VL:Vl} {P:PM}
theorem qgd (h:RMx F σ m mv ml lv tv X Wn Sv VL P) (n:Int) (ok:Bool):qbr Tryz.prog σ 104 (.map (some ml)) (.int .i64 n) ok=some (if ok then .tuple #[((P.get n).map λ_=>ptr (X n)).getD (.pointer none), .bool (P.get n).isSome] else((P.get n).map λ_=>ptr (X n)).getD (.pointer none)):=by
 have hlk:qbr Tryz.prog σ 104 (.map (some ml)) (.int .i64 n) ok=_:=qd2 (P:=Tryz.prog) (key:=Value.int .i64) (kd:= .int .i64) (t:=104) (kt:=3) (et:=110) (k:=n) Tryz.underlying104 (by kernel_rfl) (qbv .i64) (z:= .pointer none) (by kernel_rfl) h.lv.map ok
 rw [qh0] at hlk;have hgm:(P.live.find? λx=>decide (x.1=n)).map (λ_=>ptr (X n))=(P.get n).map λ_=>ptr (X n):=by unfold PM.get;cases P.live.find? λx=>decide (x.1=n)<;>rfl
 rw [hgm] at hlk;rw [hlk];cases P.get n<;>rfl
theorem qw8 (h:RM F σ m P) (hok:P.Ok) (b:Int) (hb:0≤b∧b<2^64) (Q:Out→CSt→Prop)
  (h1:∀σ',RM F σ' m (P.tick b).2→Ch mT qcd F σ σ'→Q (.ret (.int .i64 (P.tick b).1) false) σ'):W E1 (.fn 59 #[ptr m, .int .u64 b] none) σ Q:=by
 obtain⟨mv,ml,lv,tv,X,Wn,Sv,VL,h⟩:=h;rw [qap (fn:=Tryz.f59) Tryz.func59 rfl rfl rfl];have hg:=h.cell;have hc:=hok.clock;have w1:IntKind.u64.wrap (1099511627776-P.clock)=1099511627776-P.clock:=IntWalk.u64_in _ (by omega)
 by_cases e:1099511627776-P.clock<b
 ·have ht:P.tick b=(6,P):=if_pos (by simpa using e)
  have:=h1 σ (by rw [ht];exact⟨mv,ml,lv,tv,X,Wn,Sv,VL,h⟩) (Ch.refl _ _ _ _)
  rw [ht] at this;simpa [qa0,hg,w1,e,ptr] using this
 ·have ht:P.tick b=(0,{P with clock:=P.clock+b}):=if_neg (by simpa using e)
  have w2:IntKind.u64.wrap (P.clock+b)=P.clock+b:=IntWalk.u64_in _ (by omega)
  have e2:b≤1099511627776-P.clock:=by omega
  have:=h1 _ (by rw [ht];exact⟨mv,ml,lv,tv,X,Wn,Sv,VL,h.setC (P.clock+b) P.last⟩) (h.chC _)
  rw [ht] at this;simpa [qa0,hg,w1,w2,e,e2,ptr] using this
theorem qhc (h:RMx F σ m mv ml lv tv X Wn Sv VL P) (hok:P.Ok) (Q:Out→CSt→Prop) (h1:∀σ',Grow σ σ'→Q (.ret (.int .u64 P.safe) false) σ'):W E1 (.fn 125 #[ptr m] none) σ Q:=by
 rw [qap (fn:=Tryz.f125) Tryz.func125 rfl rfl rfl];have hg:=h.cell;obtain⟨o,ho,hit⟩:=qb3 (P:=Tryz.prog) (t:=104) Tryz.underlying104 h.lv.map h.lv.lm;simp [qa0,hg,ho,ptr];have g0:Grow σ (σ.alloc o):=(Grow.refl σ).alloc o;generalize σ.alloc o=s0 at hit g0⊢;refine qak (λn a s=>∃tm c,a=⟨tm,39, [],false⟩∧tm.get 3=some (.int .u64 c)∧tm.get 14=some (.pointer (some ⟨σ.n,0,none⟩))∧qkf P.live X qnx P.clock σ s σ.n ml n c)
  (λout s=>∃tm,out= .code (.exit 0) ⟨tm,39, [],false⟩∧tm.get 3=some (.int .u64 P.safe)∧Grow σ s) ?_ (lvM X P.live).length _ _ ?_ ?_
 ·rintro n a s ⟨tm,c,rfl,e3,e14,hi⟩;have gs:Grow σ s:=by obtain⟨_,_,_,_,_,gs,_⟩:=hi;exact gs
  simp [qa0,e3,e14];refine qj7 hok.nums hi (Nat.le_refl _) (λhd=> ?_) (λq o' hq gs' he hn=> ?_)
  ·have hc:=zbn hd;simp [qa0];exact⟨by rw [←hc];exact e3,gs⟩
  ·have htx:=h.lv.tx q hq;have hxq:=hok.tx q hq;have hxc:=gs'.get htx.cell htx.lx;unfold qfo hdB at hxc;unfold ptr at he;cases hs:q.2.snap with
   |true=>
    rw [hs] at hxc;obtain⟨k,hk,hf⟩:=hn c (by simp [qnx,hs])
    simp [qa0,qa2,qa4,he,hxc,e3,e14,ptr];exact⟨k,hk,hf⟩
   |false=>
    rw [hs] at hxc;have hlo:=hxq.w hs;have hw:IntKind.u64.wrap (q.2.sp.lo-1)=q.2.sp.lo-1:=IntWalk.u64_in _ (by omega)
    obtain⟨k,hk,hf⟩:=hn _ rfl;simp [qnx,hs] at hf;by_cases c1:q.2.sp.lo-1<c
    ·simp [c1] at hf;simp [qa0,qa2,qa4,he,hxc,e3,e14,ptr,hw,c1];exact⟨k,hk,hf⟩
    ·simp [c1] at hf;simp [qa0,qa2,qa4,he,hxc,e3,e14,ptr,hw,c1];exact⟨k,hk,hf⟩
 ·refine⟨_,P.clock,rfl, ?_⟩;simp;exact qkf.start hit g0
 ·rintro out s ⟨tm,rfl,e3,gs⟩;simpa [qa0,e3] using h1 s gs
theorem qld (h:RMx F σ m mv ml lv tv X Wn Sv VL P) (hok:P.Ok) (hla:P.last<2^40) {t:Tx} {x w:Nat} (hx:TxR hdB 113 F σ t x w) (hX:∀q∈P.live,X q.1≠x) (hW:t.snap=false→w≠ml∧w≠mv∧∀q∈P.live,q.2.snap=false→Wn q.1≠w) (Q:Out→CSt→Prop)
  (h1:∀σ',RM F σ' m (P.one t).2→Ch mT qcd F σ σ'→Q (.ret (.tuple #[.int .i64 (P.one t).1.1, .int .i64 (P.one t).1.2]) false) σ'):W E1 (.fn 175 #[ptr m,ptr x] none) σ Q:=by
 rw [qap (fn:=Tryz.f175) Tryz.func175 rfl rfl rfl];have hg:=h.cell;have hln:=qyd (P:=Tryz.prog) Tryz.underlying104 h.lv.map;rw [List.length_map] at hln;have hl0:=hok.last0;have hfew:=hok.few;have hw:IntKind.i64.wrap (P.last+1)=P.last+1:=IntWalk.i64_in _ (by omega)
 unfold PM.one at h1;by_cases e:P.live.length=16
 ·rw [if_pos e] at h1;have hQ:=h1 σ ⟨mv,ml,lv,tv,X,Wn,Sv,VL,h⟩ (Ch.refl _ _ _ _);simpa [qa0,qa2,qa4,hg,hln,e,ptr] using hQ
 ·rw [if_neg e] at h1;have e':¬((16:Int)≤P.live.length):=by omega
  have hr1:=h.setC P.clock (P.last+1);have hc1:=h.chC (.cells [.map (some mv),lv, .int .u64 P.clock, .int .i64 (P.last+1), .map (some ml),tv] 107 false);have hx1:TxR hdB 113 F (σ.put m (.cells [.map (some mv),lv, .int .u64 P.clock, .int .i64 (P.last+1), .map (some ml),tv] 107 false)) t x w:=hx.ch ((Ch.refl (λt=>t=107) noM F σ).put h.cell rfl h.fm _) (λ_ _=>by decide) λ_ _ _ h=>h
  simp [qa0,qa2,qa4,hg,hln,e',hw,ptr];refine qba (by kernel_rfl) ?_
  generalize σ.put m (.cells [.map (some mv),lv, .int .u64 P.clock, .int .i64 (P.last+1), .map (some ml),tv] 107 false)=s1 at hr1 hc1 hx1⊢;obtain⟨o,ho1,ho2⟩:=qct (P:=Tryz.prog) (key:=Value.int .i64) (kd:= .int .i64) (t:=104) (kt:=3) (et:=110) (k:=P.last+1) Tryz.underlying104 (by kernel_rfl) (qbv .i64) hr1.lv.map (ptr x)
  have hlv:=hr1.lv.push (n:=P.last+1) (t:=t) (λq hq=>by have:=(hok.last q hq).2;show q.1≠_;omega) hx1 hX (λhs=>⟨(hW hs).1,(hW hs).2.2⟩) ho2
  have kml:=hr1.chMl o
  have hr2:=hr1.lvCh kml hlv (λq hq hs=>by
   rcases List.mem_append.1 hq with hq|hq
   ·rw [qdd (by have:=(hok.last q hq).2;show q.1≠_;omega)];exact hr1.mw q hq hs
   ·rw [List.mem_singleton] at hq;subst hq
    rw [qdg];exact(hW hs).2.1)
  have hb2:=hr1.cell;have hb3:=hr2.cell;have hQ:=h1 _ ⟨mv,ml,lv,tv,_,_,Sv,VL,hr2⟩ (hc1.trans (qn7 kml));unfold ptr at ho1;generalize s1.put ml o=s2 at ho1 hb3 hQ;simpa [qa6,qa0,hb2,hb3,ho1] using hQ
theorem qlk (h:RM F σ m P) (hF:∀i,σ.n≤i→F i) (hok:P.Ok) (hla:P.last<2^40) (w:Int) (hw:0≤w∧w<2^63) (Q:Out→CSt→Prop)
  (h1:∀σ',RM F σ' m (P.begin w).2→Ch mT qcd F σ σ'→Q (.ret (.tuple #[.int .i64 (P.begin w).1.1, .int .i64 (P.begin w).1.2]) false) σ'):W E1 (.fn 98 #[ptr m, .int .u64 w] none) σ Q:=by
 have hrm:=h;obtain⟨mv,ml,lv,tv,X,Wn,Sv,VL,h⟩:=h;rw [qap (fn:=Tryz.f98) Tryz.func98 rfl rfl rfl];have hg:=h.cell;have hck:=hok.clock;have hmn:=h.lm;by_cases c1:w=0
 ·have e:P.begin w=((0,1),P):=if_pos (.inl (by omega))
  have hQ:=h1 σ (by rw [e];exact hrm) (Ch.refl _ _ _ _)
  rw [e] at hQ;simpa [qa0,qa2,qa4,hg,c1,ptr] using hQ
 by_cases c2:1000<w
 ·have e:P.begin w=((0,1),P):=if_pos (.inr c2);have hQ:=h1 σ (by rw [e];exact hrm) (Ch.refl _ _ _ _)
  rw [e] at hQ;simpa [qa0,qa2,qa4,hg,c1,c2,ptr] using hQ
 by_cases c3:1099511627776≤P.clock
 ·have e:P.begin w=((0,6),P):=by unfold PM.begin;rw [if_neg (by omega),if_pos (by omega)]
  have hQ:=h1 σ (by rw [e];exact hrm) (Ch.refl _ _ _ _)
  rw [e] at hQ;simpa [qa0,qa2,qa4,hg,c1,c2,c3,ptr] using hQ
 have e:P.begin w=P.one ⟨false,⟨P.clock+1,min (P.clock+w) (2^40)⟩, []⟩:=by unfold PM.begin;rw [if_neg (by omega),if_neg (by omega)]
 rw [e] at h1;have w1:IntKind.u64.wrap (P.clock+1)=P.clock+1:=IntWalk.u64_in _ (by omega)
 have w2:IntKind.u64.wrap (P.clock+w)=P.clock+w:=IntWalk.u64_in _ (by omega)
 have hne:¬m=σ.n:=by omega
 have hne1:¬m=σ.n+1:=by omega
 have hmin:(if 1099511627776<P.clock+w then 1099511627776 else P.clock+w)=min (P.clock+w) (2^40):=by split<;>omega
 simp [qa0,qa2,qa4,hg,c1,c2,c3,ptr];refine qcv (l:= [0,1,2,3,4,5,6,7,8,9,10,11,12,13,14,15,16,17,18,19,20]) (b:= #[0,0,2,6,14,30,0,64,192,448,0,1984,4032,0,16382,32766,65535,131071,131071,524287,1048575]) (by kernel_rfl) (by kernel_rfl) (by kernel_rfl) ?_
 simp [qa0,qa7,qal,qab,qb9,qa3,qa9,Nat.add_assoc,Nat.testBit_eq_decide_div_mod_eq,hg,w1,w2,qza,qcf Tryz.underlying111,hne,hne1];rw [hmin];obtain⟨z,hz⟩:∃z,z=(σ.alloc (.map #[] 0)).alloc (.cells (qfo hdB ⟨false,⟨P.clock+1,min (P.clock+w) (2^40)⟩, []⟩ (.map (some σ.n))) 113 false):=⟨_,rfl⟩
 have gz:Grow σ z:=by rw [hz];exact((Grow.refl σ).alloc _).alloc _
 have hr:=h.grow gz;have hx:TxR hdB 113 F z ⟨false,⟨P.clock+1,min (P.clock+w) (2^40)⟩, []⟩ (σ.n+1) σ.n:=by
  refine⟨hF _ (by omega),by rw [hz];simp,by rw [hz];simp [wv],λ_=>⟨hF _ (Nat.le_refl _),by rw [hz];simp;omega, [],⟨#[],0,by rw [hz];simp,qdp _ _⟩, .refl _⟩⟩
 unfold qfo hdB at hz;simp only [Bool.false_eq_true,if_false,if_true] at hz;rw [←hz];have hlt:∀q∈P.live,X q.1<σ.n:=λq hq=>(h.lv.tx q hq).lx
 have hltw:∀q∈P.live,q.2.snap=false→Wn q.1<σ.n:=λq hq hs=>((h.lv.tx q hq).wr hs).2.1
 have hbg:=λQ=>qld hr hok hla hx (λq hq=>by have:=hlt q hq;omega) (λ_=>⟨by have:=h.lv.lm;omega,by have:=h.lmv;omega,λq hq hs=>by have:=hltw q hq hs;omega⟩) Q
 unfold ptr at hbg;refine hbg _ λs2 hr2 hc2=> ?_
 have hQ:=h1 s2 hr2 (gz.ch.trans hc2);generalize hone:P.one ⟨false,⟨P.clock+1,min (P.clock+w) (2^40)⟩, []⟩=on at*;simpa [qa0,qa7,qal,qab,qb9,qa3,qa9,Nat.add_assoc,Nat.testBit_eq_decide_div_mod_eq,w1,w2] using hQ
theorem qmk (h:RM F σ m P) (hF:∀i,σ.n≤i→F i) (hok:P.Ok) (hla:P.last<2^40) (Q:Out→CSt→Prop)
  (h1:∀σ',RM F σ' m P.snapshot.2→Ch mT qcd F σ σ'→Q (.ret (.tuple #[.int .i64 P.snapshot.1.1, .int .i64 P.snapshot.1.2]) false) σ'):W E1 (.fn 99 #[ptr m] none) σ Q:=by
 obtain⟨mv,ml,lv,tv,X,Wn,Sv,VL,h⟩:=h;rw [qap (fn:=Tryz.f99) Tryz.func99 rfl rfl rfl];have hsf:=λQ=>qhc h hok Q
 unfold ptr at hsf;simp [qa0,ptr];refine hsf _ λs0 g0=> ?_
 have hsf2:=λQ=>qhc (h.grow g0) hok Q
 unfold ptr at hsf2;simp [qa0];refine hsf2 _ λs1 g1'=> ?_
 have g1:=g0.trans g1';have hr1:=h.grow g1;obtain⟨z,hz⟩:∃z,z=s1.alloc (.cells (qfo hdB ⟨true,⟨P.safe,P.safe⟩, []⟩ (.map none)) 113 false):=⟨_,rfl⟩
 have gz:Grow s1 z:=by rw [hz];exact(Grow.refl s1).alloc _
 have hr:=hr1.grow gz;have hx:TxR hdB 113 F z ⟨true,⟨P.safe,P.safe⟩, []⟩ s1.n s1.n:=⟨hF _ g1.n,by rw [hz];simp,by rw [hz];simp [wv],λh=>by cases h⟩
 unfold qfo hdB at hz;have hlt:∀q∈P.live,X q.1<s1.n:=λq hq=>(hr1.lv.tx q hq).lx
 have hbg:=λQ=>qld hr hok hla hx (λq hq=>by have:=hlt q hq;omega) (λh=>by cases h) Q
 unfold ptr at hbg;simp [qa0];rw [←hz];refine hbg _ λs2 hr2 hc2=> ?_
 have hQ:=h1 s2 hr2 ((g1.trans gz).ch.trans hc2);unfold PM.snapshot at hQ;generalize P.one ⟨true,⟨P.safe,P.safe⟩, []⟩=on at*;simpa [qa0] using hQ
theorem qs7 (x:Lk) (o:Int) (c:Nat) (s:CSt) (hc:s.get c=some (.cells [.int .i64 o] 3 false)) (hcn:c<s.n) (Q:Out→CSt→Prop) (h:∀s',Grow s s'→Q (.ret (.bool (decide (x.owner=o))) false) s'):W E1 (.fn 237 #[.agg (qag x).toArray, .pointer (some ⟨c,0,none⟩)] none) s Q:=by
 rw [qap (fn:=Tryz.f237) Tryz.func237 rfl rfl rfl];have hg:=h _ ((Grow.refl s).alloc (.cells (qag x) 99 false));have hcn':¬c=s.n:=by omega
 simp only [qag] at hg;by_cases e:x.owner=o
 ·simpa [qa0,qag,e,hc,hcn'] using hg
 ·simpa [qa0,qag,e,hc,hcn'] using hg
theorem qjl (h:RM F σ m P) (hF:∀i,σ.n≤i→F i) (hok:P.Ok) (hL:P.L.length<2^36) (n:Int) (Q:Out→CSt→Prop)
  (h1:∀σ',RM F σ' m (P.drop n)→Ch mT qcd F σ σ'→Q (.ret (.tuple #[]) false) σ'):W E1 (.fn 182 #[ptr m, .int .i64 n] none) σ Q:=by
 obtain⟨mv,ml,lv,tv,X,Wn,Sv,VL,h⟩:=h;rw [qap (fn:=Tryz.f182) Tryz.func182 rfl rfl rfl];have g0:Grow σ (σ.alloc (.cells [.int .i64 n] 3 false)):=(Grow.refl σ).alloc _;have hc0:(σ.alloc (.cells [.int .i64 n] 3 false)).get σ.n=some (.cells [.int .i64 n] 3 false):=by simp
 have hn0:σ.n<(σ.alloc (.cells [.int .i64 n] 3 false)).n:=by simp
 simp [qa0,ptr];generalize σ.alloc (.cells [.int .i64 n] 3 false)=s0 at g0 hc0 hn0⊢;have h0:=h.grow g0;have hg:=h0.cell;obtain⟨o,ho1,ho2,_⟩:=qdo (P:=Tryz.prog) (key:=Value.int .i64) (kd:= .int .i64) (ts:= #[104,3]) (t:=104) (kt:=3) (et:=110) (k:=n) rfl Tryz.underlying104 (by kernel_rfl) (qbv .i64) h0.lv.map
 have hlv:=h0.lv.del n ho2;have kml:=h0.chMl o;have hr1:=h0.lvCh kml hlv λq hq hs=>h0.mw q (List.mem_filter.1 hq).1 hs
 have hg1:=hr1.cell;have hc1:=kml.cell hc0 hn0 λ_=>by decide
 have hn1:σ.n<(s0.put ml o).n:=hn0;refine qba (by kernel_rfl) ?_
 simp [qa6,hg,hc0,ho1];generalize s0.put ml o=s1 at kml hr1 hg1 hc1 hn1⊢;simp [qa0,hg1];obtain⟨pv,cv,rfl⟩:=(hr1.lo.sl (sz:=5) qe1).form;refine qhx 237 #[.pointer (some ⟨σ.n,0,none⟩)] (λargs s=>qef rfl) (λx=>decide (x.owner=n)) (λs=>s.get σ.n=some (.cells [.int .i64 n] 3 false)∧σ.n<s.n) 0 P.L _ s1 (λs s' hs hb=>⟨?_,Nat.lt_of_lt_of_le hs.2 hb.1⟩) hr1.lo ⟨hc1,hn1⟩ (λx hx s Q hs hq=> ?_) (by omega) _ λv2 s2 ho2 hob g2=> ?_
 ·rw [hb.2 σ.n hs.2 (λe=>by
   obtain⟨_,_,row,h3⟩:=hr1.lo.lt e
   rw [hc1] at h3;cases h3)]
  exact hs.1
 ·exact qs7 x n σ.n s hs.1 hs.2 Q hq
 have kb:=qd3.chLock hr1.lo g2 hr1.flo
 have hg2:s2.get m=_:=(g2.2 m hr1.lm λe=>by
   obtain⟨_,_,row,h3⟩:=hr1.lo.lt e
   rw [hg1] at h3;cases h3).trans hg1
 obtain⟨p2,c2,rfl⟩:=(ho2.sl (sz:=5) qe1).form;have kp:=kb.put (i:=m) hg2 (.inl rfl) hr1.fm (.cells [.map (some mv), .slice p2 (P.L.filter λx=> !decide (x.owner=n)).length c2, .int .u64 P.clock, .int .i64 P.last, .map (some ml),tv] 107 false)
 have kp2:Ch (λt=>t=107) noM F s2 (s2.put m (.cells [.map (some mv), .slice p2 (P.L.filter λx=> !decide (x.owner=n)).length c2, .int .u64 P.clock, .int .i64 P.last, .map (some ml),tv] 107 false)):=(Ch.refl (λt=>t=107) noM F s2).put hg2 rfl hr1.fm _
 have kl:Ch (λt=>t=99) noM F s1 s2:=hr1.lo.butV g2 hr1.flo rfl
 have ht2:qbj 0 s2 22 qg5 tv P.taken:=hr1.to_.chT kl (by decide)
 have hr2:=hr1.setLT (c:=P.clock) (la:=P.last) kp (by simp) (ho2.chT kp2 (by decide)) (λj hj=>hr1.flo j (by rw [←hob];exact hj)) (ht2.chT kp2 (by decide)) hr1.fto
 have:=h1 _ ⟨mv,ml,_,tv,X,Wn,Sv,VL,hr2⟩ ((g0.ch.trans (qn7 kml)).trans (qz3 kp));simpa [qa0,hg2] using this
theorem qu1 (h:RM F σ m P) (hF:∀i,σ.n≤i→F i) (hok:P.Ok) (hL:P.L.length<2^36) (n:Int) (Q:Out→CSt→Prop)
  (h1:∀σ',RM F σ' m (P.abort n).2→Ch mT qcd F σ σ'→Q (.ret (.int .i64 (P.abort n).1) false) σ'):W E1 (.fn 106 #[ptr m, .int .i64 n] none) σ Q:=by
 have hrm:=h;obtain⟨mv,ml,lv,tv,X,Wn,Sv,VL,h⟩:=h;rw [qap (fn:=Tryz.f106) Tryz.func106 rfl rfl rfl];have hg:=h.cell;have hlk:=qgd h n true;have hdr:=λQ=>qjl hrm hF hok hL n Q
 unfold ptr at hlk hdr;unfold PM.abort at h1;cases hgn:P.get n with
 |none=>
  rw [hgn] at h1 hlk;simp at hlk;simpa [qa0,ptr,hg,hlk] using h1 σ hrm (Ch.refl _ _ _ _)
 |some t=>
  rw [hgn] at h1 hlk;simp at hlk;simp [qa0,ptr,hg,hlk];refine hdr _ λs2 hr2 hc2=> ?_
  simpa [qa0] using h1 s2 hr2 hc2
end
theorem qlx (R:List RV) (n:Nat) (h:n<R.length) (p:Option Addr) (m c:Nat):(R.flatMap qb4).take (n*2+1)++ .slice p m c::(R.flatMap qb4).drop (n*2+1+1)=(R.set n ⟨R[n].key,p,m,c⟩).flatMap qb4:=by
 have h1:=qoz qb4 (n:=2) qga R n ⟨R[n].key,p,m,c⟩ h;rw [←h1];have hl:(R.flatMap qb4).length=R.length*2:=qa5 qb4 qga R;have h2:n*2<(R.flatMap qb4).length:=by omega
 have hrow:((R.flatMap qb4).drop 0).take (R.length*2)=R.flatMap qb4:=by rw [List.drop_zero,List.take_of_length_le (by omega)]
 have h3:=qb2 (enc:=qb4) qga hrow n 0 h (by omega)
 rw [Nat.zero_add,Nat.add_zero,List.getElem?_eq_getElem h2] at h3;have h4:(R.flatMap qb4)[n*2]= .string R[n].key:=by simpa [qb4] using h3
 rw [List.take_succ_eq_append_getElem h2,h4];simp [qb4]
theorem qxo:∀j,j<17→Nat.testBit 131071 j=true:=by decide
theorem za9 (F:Nat→Prop) (i:Nat) (S:Stl) (hk:KS S) (hc:∀s∈S,Srt s.2) (hcl:∀s∈S,s.2.length<2^38) (k:ByteArray) (x:Ver) (σ:CSt) (hF:∀j,σ.n≤j→F j) (hst:St F σ i S) (hbig:S.length<2^38) (Q:Out→CSt→Prop)
  (h:∀(σ':CSt),St F σ' i (qjt S k x)→Ch stT noM F σ σ'→Q (.ret (.tuple #[]) false) σ'):
  W E1 (.fn 91 #[.pointer (some ⟨i,0,none⟩), .string k, .agg (qad x).toArray] none) σ Q:=by
 replace h:∀(n:Nat) (σ':CSt),Pos S k n→St F σ' i (qtk S k x n)→Ch stT noM F σ σ'→Q (.ret (.tuple #[]) false) σ':=λn σ' hp h1 h2=>h σ' (by rw [←put_eq hk hp];exact h1) h2
 have hb:0≤σ.n:=Nat.zero_le _;obtain⟨vr,R,hFI,hFv,hin,hg,hown,hrw⟩:=hst;rw [qap (fn:=Tryz.f91) Tryz.func91 rfl rfl rfl];have hni:¬i=σ.n:=by omega
 have hga:Grow σ (σ.alloc (.cells (qad x) 40 false)):=(Grow.refl σ).alloc _;obtain⟨pr,cr,rfl⟩:=(hown.sl (sz:=2) qga).form;have hl:=hrw.1;simp [qa0,qad,hg,hni];simp only [qad] at hga;refine qjn S hk R _ k _ (hrw.grow hga) ((hown.grow hga).sl qga) (by omega) _ λn σ1 hp g1=> ?_
 have hg1:=hga.trans g1;have hgi:=hg1.get hg hin;have hcell:σ1.get σ.n=some (.cells [.int .u64 x.at_, .string x.val, .bool x.gone] 40 false):=g1.get (by simp) (by simp)
 have hn1:σ.n<σ1.n:=by have:=g1.n;simp at this;omega
 have hown1:=hown.grow hg1;have hrw1:=hrw.grow hg1;by_cases hfo:∃h:n<S.length,S[n].1=k
 ·obtain⟨hnS,hkey⟩:=hfo;rw [decide_eq_true ⟨hnS,hkey⟩];have hput:qtk S k x n=S.set n (k,qfl S[n].2 x):=by
   unfold qtk;rw [List.getElem?_eq_getElem hnS];simp only [hkey,if_true]
  have hnR:n<R.length:=by omega
  obtain⟨hkeyR,hslR⟩:=hrw1.2 n hnR hnS;rcases hown1 with⟨h1,h2⟩|⟨o,cap,zs,h1,hbo,hon,hgo,hzs,hcap⟩
  ·rw [h2] at hnR;simp at hnR
  ·cases h1;have hrl:(R.flatMap qb4).length=R.length*2:=qa5 qb4 qga R;have hrow:((R.flatMap qb4++zs).drop 0).take (R.length*2)=R.flatMap qb4:=by rw [List.drop_zero,←hrl,List.take_left]
   have hrlz:(R.flatMap qb4++zs).length=R.length*2+zs.length:=by rw [List.length_append,hrl]
   have hsetz:∀(p:Option Addr) (m c:Nat),(R.flatMap qb4++zs).take (n*2+1)++ .slice p m c::(R.flatMap qb4++zs).drop (n*2+1+1)=(R.set n ⟨R[n].key,p,m,c⟩).flatMap qb4++zs:=λp m c=>by
    rw [List.take_append_of_le_length (by omega),List.drop_append_of_le_length (by omega),←List.cons_append,←List.append_assoc,qlx R n hnR p m c]
   generalize R.flatMap qb4++zs=row at hgo hrow hrlz hsetz;have hcel:=qb2 (enc:=qb4) qga hrow n 1 hnR (by omega)
   rw [Nat.zero_add] at hcel;have hcel2:row[n*2+1]? =some (.slice R[n].p R[n].n R[n].c):=hcel;have hle2:n*2+1+1≤row.length:=by omega
   simp [qa0,hgi,hcell];refine qcv (l:= [0,1,2,3,4,5,6,7,8,9,10,11,12,13,14,15,16,17]) (b:= #[0,1,3,7,0,0,32,96,224,0,992,2016,4064,0,16352,32767,65535,131071]) (by kernel_rfl) (by kernel_rfl) (by kernel_rfl) ?_
   simp [qa7,qal,qab,qb9,qa3,qa9,Nat.add_assoc,hgi,hcell,hgo,hnR,hcel2,hrl,-List.length_flatMap];have hsrt:=hc _ (List.getElem_mem hnS);have hlen:=hcl _ (List.getElem_mem hnS);have hps:=λQ=>quh S[n].2 hsrt (.slice R[n].p R[n].n R[n].c) x σ1 hslR (by omega) Q
   simp only [qad] at hps;refine hps _ λv2 σ2 h2 g2=> ?_
   obtain⟨p2,c2,rfl⟩:=(h2.sl (sz:=3) (λ_=>rfl)).form
   have hgi2:=g2.get hgi (Nat.lt_of_lt_of_le hin hg1.n);have hgo2:=g2.get hgo hon;have hcell2:=g2.get hcell hn1;simp [qa7,qal,qab,qb9,qa3,qa9,Nat.add_assoc,hgi2,hgo2,hcell2,hnR,hcel2,hrl,hle2,qxo,-List.length_flatMap];rw [hsetz];have hR2:=(hrw1.grow g2).set n ⟨R[n].key,p2,(qfl S[n].2 x).length,c2⟩ (k,qfl S[n].2 x) (by rw [hkeyR,hkey]) (h2.sl (λ_=>rfl))
   have hoi:¬i=o:=by
    intro e;subst e;rw [hgi] at hgo;have h1:=Option.some.inj hgo;injection h1 with _ h2
    exact absurd h2 (by decide)
   have hF2:Ch stT noM F σ (σ2.put o (.cells ((R.set n ⟨R[n].key,p2,(qfl S[n].2 x).length,c2⟩).flatMap qb4++zs) 267 false)):=((hg1.trans g2).ch (T:=stT)).put hgo2 (.inl rfl) (hFv o rfl) _;refine h n _ hp ?_ hF2;rw [hput];have hon2:=Nat.lt_of_lt_of_le hon g2.n;have hin2:=Nat.lt_of_lt_of_le (Nat.lt_of_lt_of_le hin hg1.n) g2.n;have hfr:Fr (λt=>t=267) 0 σ2 (σ2.put o (.cells ((R.set n ⟨R[n].key,p2,(qfl S[n].2 x).length,c2⟩).flatMap qb4++zs) 267 false)):=(Fr.refl (λt=>t=267) 0 σ2).put (Nat.zero_le _) hgo2 rfl _
   refine⟨_,R.set n ⟨R[n].key,p2,(qfl S[n].2 x).length,c2⟩,hFI,hFv,by simpa using hin2,by rw [CSt.get_put,if_neg hoi];exact hgi2, .inr ⟨o,cr,zs,by simp,hbo,by simpa using hon2,by simp,hzs, ?_⟩,hR2.fr (by decide) hfr⟩
   rcases hcap with h|⟨h,_⟩
   ·exact .inl h
   ·rw [h] at hnR;simp at hnR
 ·have hput:qtk S k x n=S.take n++(k,qfl [] x)::S.drop n:=by
   unfold qtk;cases hn:S[n]? with
   |none=>rfl
   |some s=>
    have hs:¬s.1=k:=λe=>hfo (by
     obtain⟨h1,h2⟩:=List.getElem?_eq_some_iff.1 hn
     exact⟨h1,by rw [h2];exact e⟩)
    simp only [hs,if_false]
  rw [decide_eq_false hfo];have hnR:n≤R.length:=by have:=hp.le;omega
  have hg2a:Grow σ1 (σ1.alloc (.cells (qb4 ⟨k,none,0,0⟩) 267 false)):=(Grow.refl σ1).alloc _;have hji:∀o off m c,Value.slice pr R.length cr= .slice (some ⟨o,off,none⟩) m c→o≠σ1.n:=by
   rintro o off m c e;rcases hown1 with⟨h0,_⟩|⟨i',cap,_,h0,_,h1,_⟩
   ·rw [h0] at e;cases e
   ·rw [h0] at e;cases e;omega
  have hins:=λQ=>qxt 0 R ⟨k,none,0,0⟩ n hnR (.slice pr R.length cr) _ (Nat.zero_le _) (hown1.grow hg2a) σ1.n (by simp) hji (by omega) Q
  simp only [qb4] at hins hg2a;simp [qa0,hgi,hcell];refine hins _ λv2 σ2 h2 hnew hbut g2=> ?_
  have c2:Ch stT noM F _ σ2:=qbj.butV (hown1.grow hg2a) hbut hFv (.inl rfl);have hin1:=Nat.lt_of_lt_of_le hin hg1.n;have hgi2:σ2.get i=some (.cells [.slice pr R.length cr] 269 false):=g2.get (hg2a.get hgi hin1) (by simp;omega) (.inr λrow e ro he=>by injection he with _ h2 _;rw [←h2];decide)
  have hcell2:σ2.get σ.n=some (.cells [.int .u64 x.at_, .string x.val, .bool x.gone] 40 false):=g2.get (hg2a.get hcell hn1) (by simp;omega) (.inr λrow e ro he=>by injection he with _ h2 _;rw [←h2];decide)
  have hRl:(R.take n++(⟨k,none,0,0⟩:RV)::R.drop n).length=R.length+1:=by simp;omega
  have hRn:(R.take n++(⟨k,none,0,0⟩:RV)::R.drop n)[n]? =some ⟨k,none,0,0⟩:=by
   rw [List.getElem?_append_right (by simp;omega)]
   simp [Nat.min_eq_left hnR]
  have hrw2:=(((hrw1.grow hg2a).fr (T:=λt=>t=267) (by decide) g2)).ins n hnR ⟨k,none,0,0⟩ (k, []) rfl Sl.nil
  have hSset:(S.take n++((k, []):ByteArray×List Ver)::S.drop n).set n (k,qfl [] x)=S.take n++(k,qfl [] x)::S.drop n:=by
   have h0:n=(S.take n).length+0:=by rw [List.length_take,Nat.min_eq_left hp.le,Nat.add_zero]
   conv=>lhs;arg 2;rw [h0]
   rw [List.set_append_right _ _ (by omega)]
   simp
  generalize hR':(R.take n++(⟨k,none,0,0⟩:RV)::R.drop n)=R' at h2 hRl hRn hrw2;obtain⟨hnR',hRn'⟩:=List.getElem?_eq_some_iff.1 hRn;have hslR:Sl σ2 40 3 qad (.slice none 0 0) ([]:List Ver):=Sl.nil;rcases h2 with⟨h1,h2⟩|⟨o,cap,h1,hbo,hon,hgo,hcap⟩
  ·rw [h2] at hnR';simp at hnR'
  ·subst h1;have hrl:(R'.flatMap qb4).length=R'.length*2:=qa5 qb4 qga R';have hrow:((R'.flatMap qb4).drop 0).take (R'.length*2)=R'.flatMap qb4:=by rw [List.drop_zero,List.take_of_length_le (by omega)]
   have hcel:=qb2 (enc:=qb4) qga hrow n 1 hnR' (by omega)
   rw [Nat.zero_add,hRn'] at hcel;have hcel2:(R'.flatMap qb4)[n*2+1]? =some (.slice none 0 0):=hcel;have hle2:n*2+1+1≤R'.length*2:=by omega
   have hoi:¬i=o:=by
    intro e;subst e;rw [hgi2] at hgo;have h1:=Option.some.inj hgo;injection h1 with _ h2
    exact absurd h2 (by decide)
   have hni2:¬σ.n=i:=by omega
   have hoi2:¬o=i:=λe=>hoi e.symm
   have hin2:i<σ2.n:=by have:=g2.1;simp at this;omega
   simp [qa0,hgi2,hcell2];refine qcv (l:= [0,1,2,3,4,5,6,7,8,9,10,11,12,13,14,15,16,17]) (b:= #[0,1,3,7,0,0,32,96,224,0,992,2016,4064,0,16352,32767,65535,131071]) (by kernel_rfl) (by kernel_rfl) (by kernel_rfl) ?_
   simp [qa7,qal,qab,qb9,qa3,qa9,Nat.add_assoc,hgi2,hcell2,hgo,hnR',hcel2,hrl,hoi,hoi2,hni2,-List.length_flatMap];have hgp:(σ2.put i (.cells [.slice (some ⟨o,0,none⟩) R'.length cap] 269 false)).get o=some (.cells (R'.flatMap qb4) 267 false):=by rw [CSt.get_put,if_neg hoi2];exact hgo
   have hgip:(σ2.put i (.cells [.slice (some ⟨o,0,none⟩) R'.length cap] 269 false)).get i=some (.cells [.slice (some ⟨o,0,none⟩) R'.length cap] 269 false):=by rw [CSt.get_put,if_pos rfl]
   have hcep:(σ2.put i (.cells [.slice (some ⟨o,0,none⟩) R'.length cap] 269 false)).get σ.n=some (.cells [.int .u64 x.at_, .string x.val, .bool x.gone] 40 false):=by rw [CSt.get_put,if_neg hni2];exact hcell2
   have hFi:Fr (λt=>t=269) 0 σ2 (σ2.put i (.cells [.slice (some ⟨o,0,none⟩) R'.length cap] 269 false)):=(Fr.refl (λt=>t=269) 0 σ2).put (Nat.zero_le _) hgi2 rfl _
   have hF3:Ch stT noM F σ (σ2.put i (.cells [.slice (some ⟨o,0,none⟩) R'.length cap] 269 false)):=(((hg1.trans hg2a).ch (T:=stT)).trans c2).put hgi2 (.inr rfl) hFI _;have hrw3:=hrw2.fr (T:=λt=>t=269) (by decide) hFi
   have hn3:(σ2.put i (.cells [.slice (some ⟨o,0,none⟩) R'.length cap] 269 false)).n=σ2.n:=rfl;have hns2:σ.n<σ2.n:=by have:=g2.1;simp at this;omega
   generalize hσ3:σ2.put i (.cells [.slice (some ⟨o,0,none⟩) R'.length cap] 269 false)=σ3 at hgp hgip hcep hF3 hrw3 hn3⊢;have hps:=λQ=>quh [] List.Pairwise.nil (.slice none 0 0) x σ3 Sl.nil (by simp) Q
   simp only [qad] at hps;refine hps _ λv4 σ4 h4 g4=> ?_
   obtain⟨p4,c4,rfl⟩:=(h4.sl (sz:=3) (λ_=>rfl)).form
   have hgi4:=g4.get hgip (by omega)
   have hgo4:=g4.get hgp (by omega)
   have hcell4:=g4.get hcep (by omega)
   simp [qa7,qal,qab,qb9,qa3,qa9,Nat.add_assoc,hgi4,hgo4,hcell4,hnR',hcel2,hrl,hle2,qxo,-List.length_flatMap];have hset:=qlx R' n hnR' p4 (qfl [] x).length c4;rw [hRn'] at hset;rw [hset];have hR4:=(hrw3.grow g4).set n ⟨k,p4,(qfl [] x).length,c4⟩ (k,qfl [] x) rfl (h4.sl (λ_=>rfl))
   rw [hSset,←hput] at hR4;have hFo:F o:=hF o (by have h7:σ1.n≤o:=Nat.le_trans (by simp) (hnew o rfl);have:=hg1.n;omega)
   have hF4:Ch stT noM F σ (σ4.put o (.cells ((R'.set n ⟨k,p4,(qfl [] x).length,c4⟩).flatMap qb4) 267 false)):=(hF3.trans g4.ch).put hgo4 (.inl rfl) hFo _;refine h n _ hp ?_ hF4;have hn4:=g4.n;have hfr:Fr (λt=>t=267) 0 σ4 (σ4.put o (.cells ((R'.set n ⟨k,p4,(qfl [] x).length,c4⟩).flatMap qb4) 267 false)):=(Fr.refl (λt=>t=267) 0 σ4).put (Nat.zero_le _) hgo4 rfl _
   refine⟨_,R'.set n ⟨k,p4,(qfl [] x).length,c4⟩,hFI,(show inF F (.slice (some ⟨o,0,none⟩) R'.length cap) from λj hj=>by cases hj;exact hFo),by simp;omega,by rw [CSt.get_put,if_neg hoi];exact hgi4, .inr ⟨o,cap, [],by simp,hbo,by simp;omega,by simp,rfl, ?_⟩,hR4.fr (by decide) hfr⟩
   rcases hcap with h|⟨h,_⟩
   ·exact .inl h
   ·rw [h] at hnR';simp at hnR'
def atS (S:Stl) (k:ByteArray) (n:Nat) (t:Int):Option Ver:=match S[n]? with
 |some s=>if s.1=k then atL s.2 t else none
 |none=>none
theorem at_store (F:Nat→Prop) (i:Nat) (S:Stl) (hk:KS S) (hc:∀s∈S,Srt s.2) (hcl:∀s∈S,s.2.length<2^38) (k:ByteArray) (t:Int) (σ:CSt) (hst:St F σ i S) (hbig:S.length<2^38) (Q:Out→CSt→Prop)
  (h:∀(n:Nat) (σ':CSt),Pos S k n→Grow σ σ'→Q (.ret (qr2 (atS S k n t)) false) σ'):
  W E1 (.fn 95 #[.pointer (some ⟨i,0,none⟩), .string k, .int .u64 t] none) σ Q:=by
 obtain⟨vr,R,hFI,hFv,hin,hg,hown,hrw⟩:=hst;rw [qap (fn:=Tryz.f95) Tryz.func95 rfl rfl rfl];have hni:¬i=σ.n:=by omega
 have hga:Grow σ (σ.alloc (.cells [.int .u64 0, .string ⟨#[]⟩, .bool false] 40 false)):=(Grow.refl σ).alloc _;obtain⟨pr,cr,rfl⟩:=(hown.sl (sz:=2) qga).form;have hl:=hrw.1;simp [qa0,hg,hni];refine qjn S hk R _ k _ (hrw.grow hga) ((hown.grow hga).sl qga) (by omega) _ λn σ1 hp g1=> ?_
 have hg1:=hga.trans g1;have hgi:=hg1.get hg hin;have hcell:σ1.get σ.n=some (.cells [.int .u64 0, .string ⟨#[]⟩, .bool false] 40 false):=g1.get (by simp) (by simp)
 have hn1:σ.n<σ1.n:=by have:=g1.n;simp at this;omega
 have hown1:=hown.grow hg1;have hrw1:=hrw.grow hg1;by_cases hfo:∃h:n<S.length,S[n].1=k
 ·obtain⟨hnS,hkey⟩:=hfo;rw [decide_eq_true ⟨hnS,hkey⟩];have hat:atS S k n t=atL S[n].2 t:=by
   unfold atS;rw [List.getElem?_eq_getElem hnS];simp only [hkey,if_true]
  have hnR:n<R.length:=by omega
  obtain⟨hkeyR,hslR⟩:=hrw1.2 n hnR hnS;rcases hown1 with⟨h1,h2⟩|⟨o,cap,zs,h1,hbo,hon,hgo,hzs,hcap⟩
  ·rw [h2] at hnR;simp at hnR
  ·cases h1;have hrl:(R.flatMap qb4).length=R.length*2:=qa5 qb4 qga R;have hrow:((R.flatMap qb4++zs).drop 0).take (R.length*2)=R.flatMap qb4:=by rw [List.drop_zero,←hrl,List.take_left]
   have hrlz:(R.flatMap qb4++zs).length=R.length*2+zs.length:=by rw [List.length_append,hrl]
   generalize R.flatMap qb4++zs=row at hgo hrow hrlz;have hcel:=qb2 (enc:=qb4) qga hrow n 1 hnR (by omega)
   rw [Nat.zero_add] at hcel;have hcel2:row[n*2+1]? =some (.slice R[n].p R[n].n R[n].c):=hcel;simp [qa0,hgi,hcell,hgo,hnR,hcel2,hrl,-List.length_flatMap];refine qyf S[n].2 (hc _ (List.getElem_mem hnS)) _ t σ1 hslR (by have:=hcl _ (List.getElem_mem hnS);omega) _ fun σ2 g2=> ?_
   have hcell2:=g2.get hcell hn1;have fin:=λo=>h n _ hp ((hg1.trans g2).put (i:=σ.n) (Nat.le_refl _) o)
   rw [hat,qid] at fin;rw [qid];generalize (atL S[n].2 t).getD qcx=w at fin⊢;have fin1:=fin (.cells (qad w) 40 false);simp only [qad] at fin1;simpa [qa0,qad,hcell2] using fin1
 ·rw [decide_eq_false hfo];have hat:atS S k n t=none:=by
   unfold atS;cases hn:S[n]? with
   |none=>rfl
   |some s=>
    have hs:¬s.1=k:=λe=>hfo (by
     obtain⟨h1,h2⟩:=List.getElem?_eq_some_iff.1 hn
     exact⟨h1,by rw [h2];exact e⟩)
    simp only [hs,if_false]
  have fin:=h n _ hp (hg1.put (i:=σ.n) (Nat.le_refl _) (.cells [.int .u64 0, .string ⟨#[]⟩, .bool false] 40 false));rw [hat] at fin;simp only [qr2] at fin;simpa [qa0,hgi,hcell] using fin
theorem atS_eq {S:Stl} (hk:KS S) {k:ByteArray} {n:Nat} (hp:Pos S k n) (t:Int):atS S k n t=qdj S k t:=by
 have hne:∀j (h:j<S.length),S[j].1=k→j=n:=λj h e=>by
  rcases Nat.lt_trichotomy j n with hj|hj|hj
  ·have:=hp.lo j h hj;rw [e,qah] at this;cases this
  ·exact hj
  ·have hn:n<S.length:=by omega
   have h1:=List.pairwise_iff_getElem.1 hk n j hn h hj;rw [e,hp.hi n hn (Nat.le_refl _)] at h1;cases h1
 unfold atS qdj qbk;cases hn:S[n]? with
 |none=>
  rw [qbt.2 λp hpm e=>by
   obtain⟨j,hj,rfl⟩:=List.getElem_of_mem hpm;have:=hne j hj e;subst this
   rw [List.getElem?_eq_getElem hj] at hn;cases hn]
  rfl
 |some s=>
  obtain⟨h1,h2⟩:=List.getElem?_eq_some_iff.1 hn;by_cases e:s.1=k
  ·simp only [e,if_true];rw [(qav (α:=List Ver) hk (k:=k) (x:=s.2)).2 (by rw [←e,←h2];exact List.getElem_mem h1)]
   rfl
  ·simp only [e,if_false]
   rw [qbt.2 λp hpm e1=>by
    obtain⟨j,hj,rfl⟩:=List.getElem_of_mem hpm;have:=hne j hj e1;subst this
    exact e (by rw [←h2];exact e1)]
   rfl
theorem store_at (F:Nat→Prop) (i:Nat) (S:Stl) (hk:KS S) (hc:∀s∈S,Srt s.2) (hcl:∀s∈S,s.2.length<2^38) (k:ByteArray) (t:Int) (σ:CSt) (hst:St F σ i S) (hbig:S.length<2^38) (Q:Out→CSt→Prop)
  (h:∀(σ':CSt),Grow σ σ'→Q (.ret (qr2 (qdj S k t)) false) σ'):W E1 (.fn 95 #[.pointer (some ⟨i,0,none⟩), .string k, .int .u64 t] none) σ Q:=
 at_store F i S hk hc hcl k t σ hst hbig Q λn σ' hp g=>by rw [atS_eq hk hp];exact h σ' g
theorem qgo {hd:Bool→Value} {ty:TypeId} {F:Nat→Prop} {s:CSt} {t:Tx} {x w:Nat} {c:Int} (h:TxR hd ty F s t x w) (ho:TxOk c t) (k:ByteArray) (ok:Bool):
  qbr Tryz.prog s 111 (wv t w) (.string k) ok=some (if ok then .tuple #[.agg (qad ((qaw t.wr k).getD qcx)).toArray, .bool (qaw t.wr k).isSome] else .agg (qad ((qaw t.wr k).getD qcx)).toArray):=by
 unfold wv;cases hs:t.snap with
 |true=>
  have hw:=(ho.s hs).2.2.2;rw [hw];exact qs8 (P:=Tryz.prog) (key:=Value.string) (kd:= .string) (t:=111) (kt:=9) (et:=40) (k:=k) (z:= .agg (qad qcx).toArray) Tryz.underlying111 (by kernel_rfl) qc3 (by kernel_rfl) ok
 |false=>
  obtain⟨_,_,W,hm,hp⟩:=h.wr hs;have:=qd2 (P:=Tryz.prog) (key:=Value.string) (kd:= .string) (t:=111) (kt:=9) (et:=40) (k:=k) (z:= .agg (qad qcx).toArray) Tryz.underlying111 (by kernel_rfl) qc3 (by kernel_rfl) hm ok
  have hn:(W.map (·.1)).Nodup:=(hp.map _).nodup_iff.2 (qrl ho.up)
  rw [zao hp hn k,qpr] at this;simp only [Bool.false_eq_true,if_false];rw [this];cases qaw t.wr k<;>rfl
section
variable {F:Nat→Prop} {σ:CSt} {g sp ml mt:Nat} {v:Value} {X Wn:Int→Nat} {ks:List Int} {P:PM}
theorem qwo (h:RG F σ g P) (hF:∀i,σ.n≤i→F i) (hn:gnone σ) (hok:P.Ok) (hsz:P.size<2^30) (n:Int) (k:ByteArray) (Q:Out→CSt→Prop)
  (h1:∀σ',RG F σ' g (P.read n k).2→Ch gT qcd F σ σ'→Q (.ret (.tuple #[.string (P.read n k).1.1, .bool (P.read n k).1.2.1, .int .i64 (P.read n k).1.2.2]) false) σ'):W E1 (.fn 45 #[ptr g, .int .i64 n, .string k] none) σ Q:=by
 have hrg:=h;obtain⟨sp,ml,mt,v,X,Wn,ks,h⟩:=h;rw [qap (fn:=Tryz.f45) Tryz.func45 rfl rfl rfl];have hgt:=λQ=>qci h n Q
 unfold ptr at hgt;simp [qa0,ptr];refine hgt _ (λt ht=> ?_) λhn'=> ?_
 rotate_left
 ·have e:P.read n k=((⟨#[]⟩,false,4),P):=by unfold PM.read;rw [hn']
  have:=h1 σ (by rw [e];exact hrg) (Ch.refl _ _ _ _)
  rw [e] at this;simpa [qa0] using this
 have hm:=(qao hok).1 ht;have hto:=hok.tx _ hm;have htx:=h.lv.tx _ hm;simp only at hto htx;simp [qa0];refine qeg k σ _ ?_;cases hk:kOk k with
 |false=>
  have e:P.read n k=((⟨#[]⟩,false,2),P):=by unfold PM.read;rw [ht];simp [hk]
  have:=h1 σ (by rw [e];exact hrg) (Ch.refl _ _ _ _)
  rw [e] at this;simpa [qa0] using this
 |true=>
  have hx:=htx.cell;have hlk:=qgo htx hto k true;unfold qfo hdK at hx;simp only [if_true] at hlk;have hxl:=htx.lx;cases hkg:qaw t.wr k with
  |some u=>
   have e:P.read n k=((u.val, !u.gone,0),P):=by unfold PM.read;rw [ht];simp [hk,hkg]
   rw [hkg] at hlk;have:=h1 ((σ.alloc (.cells [.int .u64 0, .string ⟨#[]⟩, .bool false] 40 false)).put σ.n (.cells (qad u) 40 false)) (by rw [e];exact hrg.grow (((Grow.refl σ).alloc _).put (Nat.le_refl _) _)) ((((Grow.refl σ).alloc _).put (Nat.le_refl _) _).ch)
   rw [e] at this;simp [qad] at hlk this;simp [qa0,hx,hlk];refine qba (by kernel_rfl) ?_
   simpa [qa6,qa0] using this
  |none=>
   rw [hkg] at hlk;have g0:Grow σ ((σ.alloc (.cells [.int .u64 0, .string ⟨#[]⟩, .bool false] 40 false)).put σ.n (.cells (qad qcx) 40 false)):=((Grow.refl σ).alloc _).put (Nat.le_refl _) _;simp only [qad,qcx] at g0;simp [qad,qcx] at hlk;simp [qa0,hx,hlk];generalize (σ.alloc (.cells [.int .u64 0, .string ⟨#[]⟩, .bool false] 40 false)).put σ.n (.cells [.int .u64 0, .string ⟨#[]⟩, .bool false] 40 false)=s0 at g0⊢;have hr0:=h.grow g0;have hx0:=g0.get hx hxl;have hg0:=hr0.cell;unfold ptr at hg0;have hcl:∀s∈P.S,s.2.length<2^38:=λs hs=>by have:=qdt hs;omega
   have hSl:P.S.length<2^38:=by have:=qfk hok;omega
   have hat:=λs (hst:St F s sp P.S) Q=>store_at F sp P.S hok.ks (λs hs=>(hok.st s hs).2.2.1) hcl k t.sp.hi s hst hSl Q
   refine qt8 (λout s=>∃tm y,out= .code .normal ⟨tm,90, [],false⟩∧tm.get 0=some (.pointer (some ⟨g,0,none⟩))∧tm.get 1=some (.int .i64 n)∧tm.get 2=some (.string k)∧tm.get 9=some (.pointer (some ⟨X n,0,none⟩))∧tm.get 13=some (.pointer (some ⟨y,0,none⟩))∧tm.get 14=some (.bool (qdj P.S k t.sp.hi).isSome)∧s.get y=some (.cells (qad (qdl (qdj P.S k t.sp.hi))) 40 false)∧y<s.n∧σ.n≤y∧Grow s0 s) ?_ ?_
   ·have hgl:=hr0.lt;have hxl0:X n<s0.n:=Nat.lt_of_lt_of_le hxl g0.n;refine qo2 (ls:= [[0,1,2,3,4,5,6,7,8,9,10,11,12,13,14,15,16], [0,1,2,3,4,5,6,7,8,9,14,10,11,12,13,15,16]]) (b:= #[0,1,3,7,0,0,32,96,224,480,1023,2047,4095,4095,0,24575,65535]) (by kernel_rfl) (by kernel_rfl) (by kernel_rfl) (by kernel_rfl) ?_
    intro ll hll;simp only [List.mem_cons,List.not_mem_nil,or_false] at hll;rcases hll with rfl|rfl
    ·simp [qa7,qal,qab,qb9,qa3,qa9,Nat.add_assoc,Nat.testBit_eq_decide_div_mod_eq,hx0,hg0];refine hat s0 hr0.st _ λs1 g1=> ?_
     rw [qid];have hx1:=g1.get hx0 hxl0;have hg1:=g1.get hg0 hgl;have gn1:=g1.n;have hne1:¬g=s1.n:=by omega
     have hne2:¬X n=s1.n:=by omega
     simp [qa7,qal,qab,qb9,qa3,qa9,Nat.add_assoc,Nat.testBit_eq_decide_div_mod_eq,hx1,hg1,hne1,hne2,qad];exact⟨⟨rfl,rfl,rfl⟩,by have:=g0.n;omega,(g1.alloc _).put gn1 _⟩
    ·have g5:Grow s0 (s0.alloc (.cells [.int .u64 0, .string ⟨#[]⟩, .bool false] 40 false)):=(Grow.refl s0).alloc _;have hc5:(s0.alloc (.cells [.int .u64 0, .string ⟨#[]⟩, .bool false] 40 false)).get s0.n=some (.cells [.int .u64 0, .string ⟨#[]⟩, .bool false] 40 false):=by simp
     have hn5:(s0.alloc (.cells [.int .u64 0, .string ⟨#[]⟩, .bool false] 40 false)).n=s0.n+1:=by simp
     have hne1:¬g=s0.n:=by omega
     have hne2:¬X n=s0.n:=by omega
     simp [qa7,qal,qab,qb9,qa3,qa9,Nat.add_assoc,Nat.testBit_eq_decide_div_mod_eq,hx0,hg0,hne1,hne2];generalize s0.alloc (.cells [.int .u64 0, .string ⟨#[]⟩, .bool false] 40 false)=s5 at g5 hc5 hn5⊢;refine hat s5 (hr0.grow g5).st _ λs1 g1=> ?_
     rw [qid];have hx1:=(g5.trans g1).get hx0 hxl0;have hg1:=(g5.trans g1).get hg0 hgl;have hc6:=g1.get hc5 (by omega)
     have gn1:=g1.n;simp [qa7,qal,qab,qb9,qa3,qa9,Nat.add_assoc,Nat.testBit_eq_decide_div_mod_eq,hx1,hg1,hc6,qad];exact⟨⟨rfl,rfl,rfl⟩,by omega,by have:=g0.n;omega,(g5.trans g1).put (Nat.le_refl _) _⟩
   ·rintro out s ⟨tm,y,rfl,e0,e1,e2,e9,e13,e14,hy,hyn,hσy,gs⟩;have gσ:=g0.trans gs;have hrs:=h.grow gσ;have hxs:=gσ.get hx hxl;have hat0:0≤(qdl (qdj P.S k t.sp.hi)).at_∧(qdl (qdj P.S k t.sp.hi)).at_≤P.clock:=by
     cases ho:qdj P.S k t.sp.hi with
     |none=>exact⟨Int.le_refl _,hok.clock.1⟩
     |some u=>have:=qgb hok ho;exact⟨by show 0≤u.at_;omega,this.2.1⟩
    have hck:=hok.clock;have e:P.read n k=if t.snap then(((qdl (qdj P.S k t.sp.hi)).val,(qdj P.S k t.sp.hi).isSome&& !(qdl (qdj P.S k t.sp.hi)).gone,0),P) else
      (let r:=P.see n t (qdl (qdj P.S k t.sp.hi)).at_ k k ⟨(qdl (qdj P.S k t.sp.hi)).at_+1,t.sp.hi⟩
       if r.1 then(((qdl (qdj P.S k t.sp.hi)).val,(qdj P.S k t.sp.hi).isSome&& !(qdl (qdj P.S k t.sp.hi)).gone,0),r.2) else((⟨#[]⟩,false,7),r.2)):=by
     unfold PM.read;rw [ht];simp only [hk,hkg];simp
    rw [e] at h1;generalize qdl (qdj P.S k t.sp.hi)=vv at hy hat0 h1⊢;generalize (qdj P.S k t.sp.hi).isSome=so at e14 h1⊢;simp only [qad] at hy;cases hs:t.snap with
    |true=>
     rw [hs] at h1 hxs;simp only [if_true] at h1;have:=h1 s ⟨sp,ml,mt,v,X,Wn,ks,hrs⟩ gσ.ch;simp [qa0,e0,e1,e2,e9,e13,e14,hxs];refine qba (by kernel_rfl) ?_
     cases so with
     |true=>simpa [qa6,qby,qa4,qa0,e13,e14,hy] using this
     |false=>simpa [qa6,qby,qa4,qa0,e13,e14,hy] using this
    |false=>
     rw [hs] at h1 hxs;simp only [Bool.false_eq_true,if_false] at h1;have hxw:=hto.w hs;have w1:IntKind.u64.wrap (vv.at_+1)=vv.at_+1:=IntWalk.u64_in _ (by omega)
     simp [qa0,e0,e1,e2,e9,e13,e14,hxs];have hLs:P.L.length<2^36:=by
      have:P.L.length≤P.size:=by unfold PM.size;omega
      omega
     have hsee:=λQ=>zax hrs (λi hi=>hF i (Nat.le_trans gσ.n hi)) (qar hn (by have:=h.lt;omega) gσ) hok hLs hm hs vv (by omega) k k ⟨vv.at_+1,t.sp.hi⟩ (λhlt=>by simp [qqs,qah,full];omega) Q
     simp only [qad,qag,ptr] at hsee;refine qba (by kernel_rfl) ?_
     simp [qa6,e0,e1,e2,e9,e13,e14,hxs,hy,w1];refine hsee _ λs2 hr2 hc2=> ?_
     have hfin:=h1 s2;generalize P.see n t vv.at_ k k ⟨vv.at_+1,t.sp.hi⟩=rr at hr2 hfin⊢;have hy2:=hc2.cell hy hyn λ_=>gTver
     cases hr1:rr.1 with
     |true=>
      rw [hr1] at hfin;simp only [if_true] at hfin;have:=hfin hr2 (gσ.ch.trans hc2);simp [qa6,qa0,e0,e1,e2,e9,e13,e14];refine qba (by kernel_rfl) ?_
      cases so with
      |true=>simpa [qa6,qby,qa4,qa0,e13,e14,hy2] using this
      |false=>simpa [qa6,qby,qa4,qa0,e13,e14,hy2] using this
     |false=>
      rw [hr1] at hfin;simp only [Bool.false_eq_true,if_false] at hfin;have:=hfin hr2 (gσ.ch.trans hc2);simpa [qa6,qa0,e0,e1,e2,e9,e13,e14] using this
end
end Go.Sm
namespace Go.Sm
set_option maxRecDepth 100000
set_option maxHeartbeats 4000000

theorem qud {α:Type} {l:List (ByteArray×α)} (h:Kup l) (k:ByteArray) (x:α) (q:ByteArray):qaw (qj9 l k x) q=if k=q then some x else qaw l q:=by
 have hk:=h.put k x;by_cases e:k=q
 ·subst e;rw [if_pos rfl,qav hk];exact qdf.2 (.inl rfl)
 ·rw [if_neg e];cases hg:qaw l q with
  |none=>
   rw [qbt] at hg⊢;intro p hp;rcases qdf.1 hp with rfl|⟨hp,_⟩
   ·exact e
   ·exact hg p hp
  |some c=>
   rw [qav h] at hg;rw [qav hk];exact qdf.2 (.inr ⟨hg,λe'=>e e'.symm⟩)
theorem get_set {P:PM} (h:P.Ok) {n:Int} {t u:Tx} (hg:P.get n=some t) (L':List Lk):({P.set n u with L:=L'}:PM).get n=some u:=by
 have hm:=(qao h).1 hg;have hn:(n,u)∈P.live.map λx=>if x.1=n then(n,u) else x:=List.mem_map.2 ⟨_,hm,if_pos rfl⟩
 unfold PM.get;have:=qfx (qvi (n:=n) (t:=u) h.nums) hn;show Option.map _ (List.find? _ (P.live.map _))=_
 rw [this]
 rfl
def Agr (b:Int) (x y:Option Ver):Prop:=x=y∨(y=none∧∃v,x=some v∧v.gone=true∧v.at_≤b∧v.val=⟨#[]⟩)
def cov (L:List Lk) (o:Int) (k:ByteArray) (a:Int):Prop:=∃l∈L,l.owner=o∧klt k l.frm=false∧klt l.til k=false∧l.sp.lo≤a∧a≤l.sp.hi
structure Pr (b:Int) (P Q:PM):Prop where
 okP:P.Ok
 okQ:Q.Ok
 clock:Q.clock=P.clock
 last:Q.last=P.last
 live:Q.live=P.live
 b0:0≤b∧b≤P.clock
 lo:∀x∈P.live,(x.2.snap=false→b<x.2.sp.lo)∧(x.2.snap=true→b≤x.2.sp.lo)
 st:∀k t,b≤t→Agr b (qdj P.S k t) (qdj Q.S k t)
 lk:∀o k a,b<a→(cov P.L o k a↔cov Q.L o k a)
 tk:∀a,b<a→(a∈P.taken↔a∈Q.taken)
theorem qzf {S:Stl} (h:KS S) (k:ByteArray) (x:Ver) (q:ByteArray):qbk (qjt S k x) q=if k=q then qfl (qbk S k) x else qbk S q:=by
 have hk:KS (qjt S k x):=Kup.put (l:=S) h k _;by_cases e:k=q
 ·subst e;rw [if_pos rfl];have:qaw (qjt S k x) k=some (qfl (qbk S k) x):=(qav (l:=qjt S k x) hk).2 (qdf.2 (.inl rfl));unfold qbk at this⊢;rw [this];rfl
 ·rw [if_neg e];have:qaw (qjt S k x) q=qaw S q:=by
   cases hg:qaw S q with
   |none=>
    rw [qbt] at hg⊢;intro p hp;rcases qdf.1 hp with rfl|⟨hp,_⟩
    ·exact e
    ·exact hg p hp
   |some c=>
    rw [qav (l:=S) h] at hg;rw [qav (l:=qjt S k x) hk];exact qdf.2 (.inr ⟨hg,λe'=>e e'.symm⟩)
  unfold qbk;rw [this]
theorem qod {α:Type}:∀{l m:List (ByteArray×α)},Kup l→Kup m→(∀p,p∈l↔p∈m)→l=m
 | [], [],_,_,_=>rfl
 | [],q::m,_,_,h=>by have:=(h q).2 (by simp);cases this
 |p::l, [],_,_,h=>by have:=(h p).1 (by simp);cases this
 |p::l,q::m,hl,hm,h=>by
  obtain⟨l1,l2⟩:=List.pairwise_cons.1 hl;obtain⟨m1,m2⟩:=List.pairwise_cons.1 hm;have e:p=q:=by
   rcases List.mem_cons.1 ((h p).1 (by simp)) with e|hp
   ·exact e
   ·rcases List.mem_cons.1 ((h q).2 (by simp)) with e|hq
    ·exact e.symm
    ·have:=qcy (l1 q hq) (m1 p hp);rw [qah] at this;cases this
  subst e
  congr 1
  refine qod l2 m2 λr=> ?_
  have hr:=h r;simp only [List.mem_cons] at hr
  constructor
  ·intro hr1;rcases hr.1 (.inr hr1) with e|h2
   ·have:=l1 r hr1;rw [e,qah] at this;cases this
   ·exact h2
  ·intro hr1;rcases hr.2 (.inr hr1) with e|h2
   ·have:=m1 r hr1;rw [e,qah] at this;cases this
   ·exact h2
def inK (wr:List (ByteArray×Ver)) (fr til k:ByteArray):Bool:= !(klt k fr||klt til k||(qaw wr k).isSome)
theorem qiq {S:Stl} (h:KS S) {wr:List (ByteArray×Ver)} {fr til:ByteArray} {hi:Int} {p:ByteArray×Ver}:p∈qbq S wr fr til hi↔inK wr fr til p.1=true∧qdj S p.1 hi=some p.2:=by
 unfold qbq;rw [List.mem_filterMap]
 constructor
 ·rintro⟨s,hs,e⟩;have hg:=(qav (l:=S) h (k:=s.1) (x:=s.2)).2 hs;by_cases c:(klt s.1 fr||klt til s.1||(qaw wr s.1).isSome)=true
  ·rw [if_pos c] at e;cases e
  ·rw [if_neg c] at e;obtain⟨v,hv,rfl⟩:=Option.map_eq_some_iff.1 e;refine⟨by unfold inK;simpa using c, ?_⟩
   unfold qdj qbk;rw [hg];exact hv
 ·rintro⟨h1,h2⟩;unfold qdj qbk at h2;cases hg:qaw S p.1 with
  |none=>
   rw [hg] at h2;cases h2
  |some c=>
   rw [hg] at h2;refine⟨_,(qav (l:=S) h).1 hg, ?_⟩;have c1:¬(klt p.1 fr||klt til p.1||(qaw wr p.1).isSome)=true:=by unfold inK at h1;simpa using h1
   simp only;rw [if_neg c1];have h2':atL c hi=some p.2:=h2;rw [h2']
   rfl
theorem qrj (l:List (ByteArray×Ver)) (c:Int) (hc:0≤c):qbf l≤c↔∀p∈l,p.2.at_≤c:=by
 have:∀(l:List (ByteArray×Ver)) (a:Int),l.foldl (λa p=>max a p.2.at_) a≤c↔a≤c∧∀p∈l,p.2.at_≤c:=by
  intro l
  induction l with
  |nil=>intro a;simp
  |cons x l ih=>
   intro a;rw [List.foldl_cons,ih];simp only [List.mem_cons,forall_eq_or_imp]
   constructor
   ·rintro⟨h1,h2⟩;exact⟨by omega,by omega,h2⟩
   ·rintro⟨h1,h2,h3⟩;exact⟨by omega,h3⟩
 unfold qbf;rw [this];exact⟨λh=>h.2,λh=>⟨hc,h⟩⟩
def qwd (S:Stl) (wr:List (ByteArray×Ver)) (fr til:ByteArray) (hi:Int):List (ByteArray×ByteArray):=(qbq S wr fr til hi).filterMap λp=>if p.2.gone then none else some (p.1,p.2.val)
theorem qvt {S:Stl} (h:KS S) (wr:List (ByteArray×Ver)) (fr til:ByteArray) (hi:Int):Kup (qbq S wr fr til hi):=by
 unfold qbq Kup;refine List.Pairwise.filterMap _ (λa a' haa b hb b' hb'=> ?_) h
 split at hb
 ·cases hb
 ·split at hb'
  ·cases hb'
  ·obtain⟨v,_,rfl⟩:=Option.map_eq_some_iff.1 hb;obtain⟨w,_,rfl⟩:=Option.map_eq_some_iff.1 hb';exact haa
theorem quk {S:Stl} (h:KS S) (wr:List (ByteArray×Ver)) (fr til:ByteArray) (hi:Int):Kup (qwd S wr fr til hi):=by
 unfold qwd Kup;refine List.Pairwise.filterMap _ (λa a' haa b hb b' hb'=> ?_) (qvt h wr fr til hi)
 split at hb
 ·cases hb
 ·split at hb'
  ·cases hb'
  ·cases hb;cases hb';exact haa
theorem qvg {S:Stl} (h:KS S) {wr:List (ByteArray×Ver)} {fr til:ByteArray} {hi:Int} {p:ByteArray×ByteArray}:p∈qwd S wr fr til hi↔inK wr fr til p.1=true∧∃v,qdj S p.1 hi=some v∧v.gone=false∧v.val=p.2:=by
 unfold qwd;rw [List.mem_filterMap]
 constructor
 ·rintro⟨q,hq,e⟩;obtain⟨h1,h2⟩:=(qiq h).1 hq;split at e
  ·cases e
  ·rename_i hgn;cases e;exact⟨h1,q.2,h2,by simpa using hgn,rfl⟩
 ·rintro⟨h1,v,h2,h3,h4⟩;refine⟨(p.1,v),(qiq h).2 ⟨h1,h2⟩, ?_⟩;simp only [h3,Bool.false_eq_true,if_false,h4]
theorem qox (a:Int):∀(D:List (ByteArray×Ver)) {S:Stl},KS S→KS (qcp a D S)
 | [],S,h=>h
 |p::D,S,h=>qox a D (Kup.put h _ _)
theorem qax {α:Type} (p:ByteArray×α) (l:List (ByteArray×α)) (q:ByteArray):qaw (p::l) q=if p.1=q then some p.2 else qaw l q:=by
 unfold qaw;rw [List.find?_cons];by_cases e:p.1=q<;>simp [e]
theorem qit (a:Int) (q:ByteArray):∀(D:List (ByteArray×Ver)) {S:Stl},KS S→(D.map (·.1)).Nodup→qaw (qcp a D S) q=match qaw D q with|some v=>some (qfl (qbk S q) ⟨a,v.val,v.gone⟩)|none=>qaw S q
 | [],S,_,_=>rfl
 |p::D,S,h,hn=>by
  rw [List.map_cons,List.nodup_cons] at hn;have hk:KS (qjt S p.1 ⟨a,p.2.val,p.2.gone⟩):=Kup.put h _ _;have ih:=qit a q D hk hn.2;have e1:qcp a (p::D) S=qcp a D (qjt S p.1 ⟨a,p.2.val,p.2.gone⟩):=rfl;rw [e1,ih,qax];by_cases e:p.1=q
  ·subst e;have hnone:qaw D p.1=none:=qbt.2 λx hx e2=>hn.1 (by rw [←e2];exact List.mem_map_of_mem (f:=(·.1)) hx)
   rw [hnone,if_pos rfl];simp only;unfold qjt;rw [qud h,if_pos rfl]
  ·rw [if_neg e];have hst:qbk (qjt S p.1 ⟨a,p.2.val,p.2.gone⟩) q=qbk S q:=by rw [qzf h,if_neg e]
   rw [hst];have:qaw (qjt S p.1 ⟨a,p.2.val,p.2.gone⟩) q=qaw S q:=by unfold qjt;rw [qud h,if_neg e]
   rw [this]
theorem qi4 {α:Type} {A B:List (ByteArray×α)} (h:A.Perm B) (hn:(A.map (·.1)).Nodup) (k:ByteArray):qaw A k=qaw B k:=by
 have hB:(B.map (·.1)).Nodup:=(h.map _).nodup_iff.1 hn
 have key:∀{C:List (ByteArray×α)},(C.map (·.1)).Nodup→∀x,qaw C k=some x↔(k,x)∈C:=by
  intro C hC x
  induction C with
  |nil=>simp [qaw]
  |cons p C ih=>
   rw [List.map_cons,List.nodup_cons] at hC;rw [qax,List.mem_cons];by_cases e:p.1=k
   ·rw [if_pos e]
    constructor
    ·intro h;cases h;left;exact Prod.ext e.symm rfl
    ·rintro(h|h)
     ·rw [←h]
     ·exact absurd (List.mem_map_of_mem (f:=(·.1)) h) (by rw [←e];exact hC.1)
   ·rw [if_neg e,ih hC.2]
    constructor
    ·exact .inr
    ·rintro(h|h)
     ·exact absurd (congrArg (·.1) h).symm e
     ·exact h
 apply Option.ext;intro x;rw [key hn,key hB,h.mem_iff]
theorem qqg (a:Int) {D wr:List (ByteArray×Ver)} {S:Stl} (h:D.Perm wr) (hn:(D.map (·.1)).Nodup) (hS:KS S):qcp a D S=qcp a wr S:=by
 have hw:(wr.map (·.1)).Nodup:=(h.map _).nodup_iff.1 hn
 have k1:=qox a D hS;have k2:=qox a wr hS;refine qod k1 k2 λp=> ?_
 rw [←qav k1 (k:=p.1) (x:=p.2),←qav k2 (k:=p.1) (x:=p.2),qit a _ D hS hn,qit a _ wr hS hw,qi4 h hn]
theorem qce {α:Type} {wr:List (ByteArray×α)} (h:Kup wr):(wr.map (·.1)).Nodup:=by
 unfold Kup at h;rw [List.Nodup,List.pairwise_map];exact h.imp fun {a b} hab e=>by
  rw [e,qah] at hab;cases hab
end Go.Sm
namespace Go.Sm
open Go Go.Proofs
set_option maxRecDepth 100000
set_option maxHeartbeats 4000000
theorem quz:(⟨#[]⟩:ByteArray).toList= []:=by
 unfold ByteArray.toList ByteArray.toList.loop
 rfl
theorem qf5 (k:ByteArray) (σ:CSt) (Q:Out→CSt→Prop) (h:Q (.ret (.bool (kOk k)) false) σ):W E1 (.fn 176 #[.string k] none) σ Q:=by
 rw [qap (fn:=Tryz.f176) Tryz.func176 rfl rfl rfl];unfold kOk at h;by_cases e:k=⟨#[]⟩
 ·subst e;have e0:¬(1≤(⟨#[]⟩:ByteArray).size):=by decide
  simp [e0] at h;simpa [qa0,qa2,qa4,quz] using h
 ·have hl:k.toList≠ []:=λe2=>e (qep (by rw [e2,quz]))
  have e1:1≤k.size:=by
   rcases Nat.eq_zero_or_pos k.size with h0|h0
   ·exfalso;apply e;obtain⟨⟨d⟩⟩:=k;have:d= []:=List.eq_nil_of_length_eq_zero h0;subst this;rfl
   ·exact h0
  by_cases e2:k.size≤32
  ·have e3:(k.size:Int)≤32:=by omega
   simp [e1,e2] at h;simpa [qa0,qa2,qa4,quz,hl,e3] using h
  ·have e3:¬(k.size:Int)≤32:=by omega
   simp [e1,e2] at h;simpa [qa0,qa2,qa4,quz,hl,e3] using h
def qm6 (VL:Vl) (k:ByteArray):List Ver:=(qaw VL k).getD []
theorem VRel.nodup {VL:Vl} {S:Stl} (h:VRel VL S) (hk:KS S):(VL.map (·.1)).Nodup:=by
 have h1:=(h.1.map (·.1)).nodup_iff.2 (qce hk)
 rw [List.map_map] at h1;exact h1
theorem qkr {α β:Type} (f:α→β) (k:ByteArray):∀l:List (ByteArray×α),qaw (l.map λq=>(q.1,f q.2)) k=(qaw l k).map f
 | []=>rfl
 |q::l=>by
  rw [List.map_cons,qax,qax,qkr f k l];split<;>rfl
theorem VRel.get {VL:Vl} {S:Stl} (h:VRel VL S) (hk:KS S) (k:ByteArray):qbk S k=qcs (qm6 VL k)∧Uni (qm6 VL k):=by
 have hn:=h.nodup hk;have h1:qaw S k=(qaw VL k).map qcs:=by
  rw [←qkr,qi4 h.1 (by rw [List.map_map];exact hn)]
 unfold qbk qm6;rw [h1];cases e:qaw VL k with
 |none=>exact⟨rfl,List.Pairwise.nil⟩
 |some l=>
  refine⟨rfl, ?_⟩;unfold qaw at e;obtain⟨q,h2,rfl⟩:=Option.map_eq_some_iff.1 e;exact h.2 q (List.mem_of_find?_eq_some h2)
theorem qor (Sv:ByteArray→Value) (k:ByteArray):∀VL:Vl,qkg (VL.map λq=>(q.1,Sv q.1)) k=(qaw VL k).map λ_=>Sv k
 | []=>rfl
 |q::VL=>by
  have ih:=qor Sv k VL;unfold qkg at ih⊢;rw [List.map_cons,List.find?_cons,qax];by_cases e:q.1=k
  ·simp [e]
  ·simp only [e,decide_false,if_false];exact ih
section
variable {F:Nat→Prop} {σ:CSt} {m mv ml:Nat} {lv tv:Value} {X Wn:Int→Nat} {Sv:ByteArray→Value} {VL:Vl} {P:PM}
def vval (Sv:ByteArray→Value) (VL:Vl) (k:ByteArray):Value:=((qaw VL k).map λ_=>Sv k).getD (.slice none 0 0)
theorem qew (h:RMx F σ m mv ml lv tv X Wn Sv VL P) (k:ByteArray):qbr Tryz.prog σ 101 (.map (some mv)) (.string k) false=some (vval Sv VL k)∧Sl σ 40 3 qad (vval Sv VL k) (qm6 VL k):=by
 have hlk:=qd2 (P:=Tryz.prog) (key:=Value.string) (kd:= .string) (t:=101) (kt:=9) (et:=103) (k:=k) (z:= .slice none 0 0) Tryz.underlying101 (by kernel_rfl) qc3 (by kernel_rfl) h.vers false
 rw [qor] at hlk;refine⟨hlk, ?_⟩;unfold vval qm6;cases e:qaw VL k with
 |none=>exact Sl.nil
 |some l=>
  unfold qaw at e;obtain⟨q,h2,rfl⟩:=Option.map_eq_some_iff.1 e;have h3:q.1=k:=by simpa using List.find?_some h2
  have:=h.vs q (List.mem_of_find?_eq_some h2);rw [h3] at this;exact this
theorem qtv (h:RMx F σ m mv ml lv tv X Wn Sv VL P) (hok:P.Ok) (k:ByteArray):(qm6 VL k).length≤P.size:=by
 obtain⟨h1,h2⟩:=h.rel.get hok.ks k;rw [←qgx _ h2,←h1];unfold qbk;cases e:qaw P.S k with
 |none=>simp
 |some l=>exact qdt (s:=(k,l)) ((qav hok.ks).1 e)
def AtI (l:List Ver) (t:Int) (σ s:CSt) (j:Nat) (fo:Bool):Prop:=∃o,fo=Option.isSome o∧o=atM (l.take j) t∧s.get (σ.n+1)=some (.cells (qad (qdl o)) 40 false)∧s.get σ.n=some (.cells [.int .u64 0, .string ⟨#[]⟩, .bool false] 40 false)∧Grow σ s∧σ.n+2≤s.n
theorem zau (h:RMx F σ m mv ml lv tv X Wn Sv VL P) (k:ByteArray) (hle:(qm6 VL k).length<2^30) (t:Int) (Q:Out→CSt→Prop)
  (h1:∀σ',Grow σ σ'→Q (.ret (.tuple #[.agg (qad (qdl (atM (qm6 VL k) t))).toArray, .bool (atM (qm6 VL k) t).isSome]) false) σ'):W E1 (.fn 177 #[ptr m, .string k, .int .u64 t] none) σ Q:=by
 rw [qap (fn:=Tryz.f177) Tryz.func177 rfl rfl rfl];have g0:Grow σ ((σ.alloc (.cells [.int .u64 0, .string ⟨#[]⟩, .bool false] 40 false)).alloc (.cells [.int .u64 0, .string ⟨#[]⟩, .bool false] 40 false)):=((Grow.refl σ).alloc _).alloc _;have hr0:=h.grow g0;have hg0:=hr0.cell;have hc6:((σ.alloc (.cells [.int .u64 0, .string ⟨#[]⟩, .bool false] 40 false)).alloc (.cells [.int .u64 0, .string ⟨#[]⟩, .bool false] 40 false)).get σ.n=some (.cells [.int .u64 0, .string ⟨#[]⟩, .bool false] 40 false):=by simp
 have hc8:((σ.alloc (.cells [.int .u64 0, .string ⟨#[]⟩, .bool false] 40 false)).alloc (.cells [.int .u64 0, .string ⟨#[]⟩, .bool false] 40 false)).get (σ.n+1)=some (.cells [.int .u64 0, .string ⟨#[]⟩, .bool false] 40 false):=by simp
 have hn0:((σ.alloc (.cells [.int .u64 0, .string ⟨#[]⟩, .bool false] 40 false)).alloc (.cells [.int .u64 0, .string ⟨#[]⟩, .bool false] 40 false)).n=σ.n+2:=by simp
 obtain⟨hlk,_⟩:=qew hr0 k;have hsl:=(qew h k).2;have hne:¬m=σ.n:=by have:=h.lm;omega
 have hne2:¬m=σ.n+1:=by have:=h.lm;omega
 generalize hl:qm6 VL k=l at hsl hle h1;obtain⟨p,c,hpc⟩:=hsl.form;rw [hpc] at hsl hlk;have hg:=h.cell;simp [qa0,ptr,hg,hne,hne2,hlk,Nat.add_assoc];generalize (σ.alloc (.cells [.int .u64 0, .string ⟨#[]⟩, .bool false] 40 false)).alloc (.cells [.int .u64 0, .string ⟨#[]⟩, .bool false] 40 false)=s0 at g0 hc6 hc8 hn0⊢;refine qak (λn a s=>∃tm j fo,a=⟨tm,42, [],false⟩∧tm.get 2=some (.int .u64 t)∧tm.get 6=some (.pointer (some ⟨σ.n,0,none⟩))∧tm.get 8=some (.pointer (some ⟨σ.n+1,0,none⟩))∧tm.get 9=some (.bool fo)∧tm.get 17=some (.slice p l.length c)∧tm.get 18=some (.int .i64 l.length)∧tm.get 19=some (.int .i64 (j:Nat))∧j≤l.length∧n=l.length-j∧AtI l t σ s j fo)
  (λout s=>∃tm,out= .code (.exit 0) ⟨tm,42, [],false⟩∧tm.get 6=some (.pointer (some ⟨σ.n,0,none⟩))∧tm.get 8=some (.pointer (some ⟨σ.n+1,0,none⟩))∧tm.get 9=some (.bool (Option.isSome (atM l t)))∧s.get (σ.n+1)=some (.cells (qad (qdl (atM l t))) 40 false)∧s.get σ.n=some (.cells [.int .u64 0, .string ⟨#[]⟩, .bool false] 40 false)∧Grow σ s) ?_ l.length _ _ ?_ ?_
 ·rintro n a s ⟨tm,j,fo,rfl,e2,e6,e8,e9,e17,e18,e19,hj,hn,⟨o,rfl,ho,hs8,hs6,gs,hsn⟩⟩;by_cases hjl:j<l.length
  ·obtain⟨i,off,row,ro,hpp,hgi,hin,hrow,hle2⟩:=(hsl.grow gs).at hjl;subst hpp;have hld:=qam (enc:=qad) (λ_=>rfl) hrow j hjl
   have hl1:=qbe hle2 j hjl;have hw2:=qb7 j (by omega)
   have hjl':(j:Int)<l.length:=by omega
   have hsn':=qvz (l.take j) l[j] t;rw [←List.take_succ_eq_append_getElem hjl,←ho] at hsn';have g5:Grow s ((s.alloc (.cells [.int .u64 0, .string ⟨#[]⟩, .bool false] 40 false)).put s.n (.cells [.int .u64 l[j].at_, .string l[j].val, .bool l[j].gone] 40 false)):=((Grow.refl s).alloc _).put (Nat.le_refl _) _;have hc5:((s.alloc (.cells [.int .u64 0, .string ⟨#[]⟩, .bool false] 40 false)).put s.n (.cells [.int .u64 l[j].at_, .string l[j].val, .bool l[j].gone] 40 false)).get s.n=some (.cells [.int .u64 l[j].at_, .string l[j].val, .bool l[j].gone] 40 false):=by simp
   have hn5:((s.alloc (.cells [.int .u64 0, .string ⟨#[]⟩, .bool false] 40 false)).put s.n (.cells [.int .u64 l[j].at_, .string l[j].val, .bool l[j].gone] 40 false)).n=s.n+1:=by simp
   have hs85:=g5.get hs8 (by omega)
   have hs65:=g5.get hs6 (by omega)
   simp [qa0,e2,e6,e8,e9,e17,e18,e19,hjl,hjl',hgi,hld,hl1];simp [qa0,qad,e2,e6,e8,e9,e17,e18,e19];generalize (s.alloc (.cells [.int .u64 0, .string ⟨#[]⟩, .bool false] 40 false)).put s.n (.cells [.int .u64 l[j].at_, .string l[j].val, .bool l[j].gone] 40 false)=s5 at g5 hc5 hn5 hs85 hs65⊢;have gs5:=gs.trans g5;have hput:∀row,Grow σ (s5.put (σ.n+1) row):=λrow=>gs5.put (by omega) row
   cases o with
   |none=>
    simp at hsn';simp [qdl,qad] at hs85;by_cases c1:l[j].at_≤t
    ·rw [if_pos c1] at hsn';simp [qa0,qa2,qa4,e2,e6,e8,e9,e17,e18,e19,hc5,c1,hw2,hs85];try simp [qa0,e2,e6,e8,e9,e17,e18,e19,hw2]
     exact⟨l.length-(j+1),by omega,j+1,rfl,by omega,rfl,some l[j],rfl,hsn'.symm,by simp [qad,qdl],by rw [CSt.get_put,if_neg (by omega)];exact hs65,hput _,by show _≤s5.n;omega⟩
    ·rw [if_neg c1] at hsn';simp [qa0,qa2,qa4,e2,e6,e8,e9,e17,e18,e19,hc5,c1,hw2];try simp [qa0,e2,e6,e8,e9,e17,e18,e19,hw2]
     exact⟨l.length-(j+1),by omega,j+1,rfl,by omega,rfl,none,rfl,hsn'.symm,by simpa [qad,qdl] using hs85,hs65,gs5,by omega⟩
   |some u=>
    simp [qdl,qad] at hsn' hs85;by_cases c1:l[j].at_≤t
    ·by_cases c2:u.at_<l[j].at_
     ·rw [if_pos ⟨c1,c2⟩] at hsn';simp [qa0,qa2,qa4,e2,e6,e8,e9,e17,e18,e19,hc5,c1,c2,hw2,hs85];try simp [qa0,e2,e6,e8,e9,e17,e18,e19,hw2]
      exact⟨l.length-(j+1),by omega,j+1,rfl,by omega,rfl,some l[j],rfl,hsn'.symm,by simp [qad,qdl],by rw [CSt.get_put,if_neg (by omega)];exact hs65,hput _,by show _≤s5.n;omega⟩
     ·rw [if_neg (by omega)] at hsn'
      simp [qa0,qa2,qa4,e2,e6,e8,e9,e17,e18,e19,hc5,c1,c2,hw2,hs85];try simp [qa0,e2,e6,e8,e9,e17,e18,e19,hw2]
      exact⟨l.length-(j+1),by omega,j+1,rfl,by omega,rfl,some u,rfl,hsn'.symm,by simpa [qad,qdl] using hs85,hs65,gs5,by omega⟩
    ·rw [if_neg (by omega)] at hsn'
     simp [qa0,qa2,qa4,e2,e6,e8,e9,e17,e18,e19,hc5,c1,hw2];try simp [qa0,e2,e6,e8,e9,e17,e18,e19,hw2]
     exact⟨l.length-(j+1),by omega,j+1,rfl,by omega,rfl,some u,rfl,hsn'.symm,by simpa [qad,qdl] using hs85,hs65,gs5,by omega⟩
  ·have hjl':j=l.length:=by omega
   subst hjl';rw [List.take_length] at ho;subst ho;simp [qa0,e2,e6,e8,e9,e17,e18,e19];exact⟨hs8,hs6,gs⟩
 ·refine⟨_,0,false,rfl, ?_⟩;simp;exact⟨none,rfl,rfl,by simpa [qad,qdl] using hc8,hc6,g0,by omega⟩
 ·rintro out s ⟨tm,rfl,e6,e8,e9,hs8,hs6,gs⟩;have hne6:¬σ.n+1=σ.n:=by omega
  have fin:=h1 (s.put σ.n (.cells (qad (qdl (atM l t))) 40 false)) (gs.put (Nat.le_refl _) _);generalize qdl (atM l t)=w at fin hs8;generalize (atM l t).isSome=fo at fin e9;simp only [qad] at fin hs8;simpa [qa0,e6,e8,e9,hs8,hs6] using fin
theorem qvo (h:RMx F σ m mv ml lv tv X Wn Sv VL P) (hok:P.Ok) (hsz:P.size<2^30) (k:ByteArray) (t:Int) (Q:Out→CSt→Prop)
  (h1:∀σ',Grow σ σ'→Q (.ret (.tuple #[.agg (qad (qdl (qdj P.S k t))).toArray, .bool (qdj P.S k t).isSome]) false) σ'):W E1 (.fn 177 #[ptr m, .string k, .int .u64 t] none) σ Q:=by
 obtain⟨hst,huni⟩:=h.rel.get hok.ks k;have hle:=qtv h hok k;have hat:qdj P.S k t=atM (qm6 VL k) t:=by
  unfold qdj;rw [hst,atM_eq huni]
 rw [hat] at h1;exact zau h k (by omega) t Q h1
end
end Go.Sm
